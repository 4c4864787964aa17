import Derived.Test.YtdgmdomlghamdaaGreatDoorTab
set_option linter.unusedVariables false
set_option linter.unusedSimpArgs false
set_option maxRecDepth 100000
noncomputable section
namespace PX
open Go
open Md
namespace Te
abbrev cE {α : Type} (f : α → List D) (l : List α) (i : Int) (k : Nat) : D := cellAt (elemAt (List.map f l) (Int.toNat i)) k
abbrev lM {α : Type} (f : α → List D) (l : List α) : Nat := List.length (List.map f l)
abbrev iB (i n : Int) : Bool := decide (0 ≤ i) && decide (i < n)
abbrev w6 (x : Int) : Int := IntKind.wrap .i64 x
abbrev eI : Int → List D := aO .i64
theorem lGe {R : Type} {e : R → Out} {c c' : Bool} {a : Option R} {a' : Res} (h1 : Le (a.map e) a') (hc : c = c' := by simp only [EN]) : Le ((cond c a none).map e) (cond c' a' none) := lG hc h1
theorem lDe {R : Type} {e : R → Out} {c c' : Bool} {a b : Option R} {a' b' : Res} (h1 : Le (a.map e) a') (h2 : Le (b.map e) b') (hc : c = c' := by simp only [EN]) : Le ((cond c a b).map e) (cond c' a' b') := lD hc h1 h2
abbrev dIq (n : Int) : AV := .d (.int .i64 n)
abbrev dSq (s : Str) : AV := .d (.str s)
abbrev dBq (b : Bool) : AV := .d (.bool b)
abbrev rB (b : Bool) : Res := some (.ret [.d (.bool b)] [] [])
abbrev rI (n : Int) : Res := some (.ret [.d (.int .i64 n)] [] [])
abbrev zMq : aF := aF.mk [] [] 0 false 0 0 [] 0 []
abbrev zWq : aV := aV.mk false 0 zMq
abbrev zPq : aA := aA.mk 0 0 false zMq [] [] false 0 0 0 zWq false 0 [] [] []
theorem T15 (κ : Tau) (p0 : Int) : bdy κ 15 [dIq p0] [] [] =
 (some (.ret [aJ.av (aJ.mk p0 0 0 false)] [] [])) := by kernel_rfl
theorem acR (p0 : Int) : Le (Option.map fD (y9 p0)) (aY SE 15 [dIq p0] [] []) := by
 refine bD (T15 _ p0) ?_
 unfold y9
 exact aN rfl
theorem T85 (κ : Tau) (p0 p1 p2 : Int) : bdy κ 85 [dIq p0, dIq p1, dIq p2] [] [] =
 cond (decide (p0 ≥ p1)) (
 (rB (decide (p0 ≤ p2)))) (
 (rB false)) := by kernel_rfl
theorem fW (p0 p1 p2 : Int) : Le (Option.map packet_is_out (iG p0 p1 p2)) (aY SE 85 [dIq p0, dIq p1, dIq p2] [] []) := by
 refine bD (T85 _ p0 p1 p2) ?_
 unfold iG
 refine lC ?_ ?_
 ·exact aN rfl
 ·exact aN rfl
theorem T87 (κ : Tau) (p0 : aA) : bdy κ 87 [aA.av p0] [] [] =
 cond (p0.Kind == 1) (
 (some (cH ((aA.mk p0.Kind 0 false zMq p0.Client p0.User p0.Clean p0.Keep p0.Expiry p0.Window p0.Will false 0 [] [] []))))) (
 cond (p0.Kind == 2) (
 (some (cH ((aA.mk p0.Kind 0 false zMq [] [] false 0 0 0 zWq p0.Present p0.Code [] [] []))))) (
 cond (p0.Kind == 3) (
 (some (cH ((aA.mk p0.Kind p0.ID p0.Dup p0.Message [] [] false 0 0 0 zWq false 0 [] [] []))))) (
 cond (p0.Kind == 4) (
 (some (cH ((aA.mk p0.Kind p0.ID false zMq [] [] false 0 0 0 zWq false 0 [] [] []))))) (
 cond (p0.Kind == 5) (
 (some (cH ((aA.mk p0.Kind p0.ID false zMq [] [] false 0 0 0 zWq false 0 [] [] []))))) (
 cond (p0.Kind == 6) (
 (some (cH ((aA.mk p0.Kind p0.ID false zMq [] [] false 0 0 0 zWq false 0 [] [] []))))) (
 cond (p0.Kind == 7) (
 (some (cH ((aA.mk p0.Kind p0.ID false zMq [] [] false 0 0 0 zWq false 0 [] [] []))))) (
 cond (p0.Kind == 8) (
 (some (cH ((aA.mk p0.Kind p0.ID false zMq [] [] false 0 0 0 zWq false 0 p0.Subs [] []))))) (
 cond (p0.Kind == 9) (
 (some (cH ((aA.mk p0.Kind p0.ID false zMq [] [] false 0 0 0 zWq false 0 [] [] p0.Codes))))) (
 cond (p0.Kind == 11) (
 (some (cH ((aA.mk p0.Kind p0.ID false zMq [] [] false 0 0 0 zWq false 0 [] [] p0.Codes))))) (
 cond (p0.Kind == 10) (
 (some (cH ((aA.mk p0.Kind p0.ID false zMq [] [] false 0 0 0 zWq false 0 [] p0.Filters []))))) (
 cond (p0.Kind == 14) (
 (some (cH ((aA.mk p0.Kind 0 false zMq [] [] false 0 0 0 zWq false p0.Code [] [] []))))) (
 (some (cH ((aA.mk p0.Kind 0 false zMq [] [] false 0 0 0 zWq false 0 [] [] [])))))))))))))))) := by kernel_rfl
theorem anE (p0 : aA) : Le (Option.map cH (wK p0)) (aY SE 87 [aA.av p0] [] []) := by
 refine bD (T87 _ p0) ?_
 unfold wK
 repeat' first | (with_reducible first | refine lC ?_ ?_ | refine aN ?_) | rfl | (simp only [EN, cH] <;> rfl)
theorem aBb (κ : Tau) (p0 : aA) : bdy κ 113 [aA.av p0] [] [] =
 (some (.ret [cJ.av (cJ.mk p0.Kind p0.ID p0.Keep p0.Expiry p0.Window p0.Code p0.Will.Delay p0.Dup p0.Clean p0.Present p0.Will.Set p0.Client p0.User)] [] [])) := by kernel_rfl
theorem akB (p0 : aA) : Le (Option.map mE (uS p0)) (aY SE 113 [aA.av p0] [] []) := by
 refine bD (aBb _ p0) ?_
 unfold uS
 exact aN rfl
noncomputable def anm (L : cD) (κ : Tau) (a0 : List (List D)) (a1 a2 : Int) (a3 : List D) : Res := rl L κ 114 0 [1, 1, 0, 1, 0] (bQ [(3, .ptr 1000000000 0), (71, .d (.sl aE.ks a0)), (72, dIq a1), (73, dIq a2)] [⟨47, (List.map AV.d a3)⟩] [] [] [])
noncomputable def ard (L : cD) (κ : Tau) (a0 a1 : List D) : Res := rl L κ 114 0 [1, 1, 0, 0] (bQ [(2, .ptr 1000000000 0), (3, .ptr 1000000001 0)] [⟨47, (List.map AV.d a0)⟩, ⟨47, (List.map AV.d a1)⟩] [] [] [])
theorem aBK (κ : Tau) (p0 p1 : aF) : bdy κ 114 [aF.av p0, aF.av p1] [] [] =
 cond (!(p0.Topic == p1.Topic)) (
 (rB false)) (
 cond (!(p0.Payload == p1.Payload)) (
 (rB false)) (
 cond (p0.Level != p1.Level) (
 (rB false)) (
 cond (p0.Retain != p1.Retain) (
 (rB false)) (
 cond (p0.Priority != p1.Priority) (
 (rB false)) (
 cond (p0.Expires != p1.Expires) (
 (rB false)) (
 cond (!(p0.From == p1.From)) (
 (rB false)) (
 cond (p0.Seq != p1.Seq) (
 (rB false)) (
 cond ((lM aE.enc p0.Props : Int) != (lM aE.enc p1.Props : Int)) (
 (rB false)) (
 ard lab κ (aF.enc p0) (aF.enc p1)))))))))) := by kernel_rfl
theorem axV (κ : Tau) (x71 : List aE) (x72 x73 : Int) (b0 : aF) : anm cA κ (List.map aE.enc x71) x72 x73 (aF.enc b0) =
 cond (decide (x73 < x72)) (
 cond (iB x73 (lM aE.enc x71 : Int)) (
  cond (iB x73 (lM aE.enc b0.Props : Int)) (
  cond (!(((bM (cE aE.enc x71 x73 0)) == (bM (cE aE.enc b0.Props x73 0))) && (((bM (cE aE.enc x71 x73 1)) == (bM (cE aE.enc b0.Props x73 1))) && true))) (
   (rB false)) (
  anm lab κ (List.map aE.enc x71) x72 (w6 (x73 + 1)) (aF.enc b0))) none) none) (
 (rB true)) := by kernel_rfl
theorem ay5 (κ : Tau) (b0 b1 : aF) : ard cA κ (aF.enc b0) (aF.enc b1) =
 anm lab κ (List.map aE.enc b0.Props) (lM aE.enc b0.Props : Int) 0 (aF.enc b1) := by kernel_rfl
theorem ajg : ∀ (fu : Nat) (x71 : List aE) (x72 x73 : Int) (b0 : aF), Le (Option.map packet_is_out (nE fu x71 x72 x73 b0)) (anm lab (kF 114) (List.map aE.enc x71) x72 x73 (aF.enc b0)) := by
 intro fu
 induction fu with
 | zero => intros; exact le_none
 | succ fu ih =>
  intro x71 x72 x73 b0
  refine bR (axV _ x71 x72 x73 b0) ?_
  unfold nE
  refine lC ?_ ?_
  ·refine lGe ?_
   refine lGe ?_
   refine lDe ?_ ?_
   ·exact aN rfl
   ·exact ih x71 x72 (w6 (x73 + 1)) b0
  ·exact aN rfl
theorem aiJ (b0 b1 : aF) : Le (Option.map packet_is_out (w8 b0 b1)) (ard lab (kF 114) (aF.enc b0) (aF.enc b1)) := by
 refine bR (ay5 _ b0 b1) ?_
 unfold w8
 (try simp only [EN]); exact ajg fuel b0.Props (List.length b0.Props : Int) 0 b1
theorem abx (p0 p1 : aF) : Le (Option.map packet_is_out (pG p0 p1)) (aY SE 114 [aF.av p0, aF.av p1] [] []) := by
 refine bD (aBK _ p0 p1) ?_
 unfold pG
 repeat' first | (with_reducible first | refine lC ?_ ?_ | refine lD ?_ ?_ ?_ | exact aiJ _ _ | refine aN ?_) | rfl | (simp only [EN]; done) | (simp only [EN, packet_is_out] <;> rfl)
noncomputable def amR (L : cD) (κ : Tau) (a0 a1 : List (List D)) (a2 a3 : Int) : Res := rl L κ 115 0 [1, 1, 0, 1, 0] (bQ [(1, .d (.sl aG.ks a0)), (12, .d (.sl aG.ks a1)), (13, dIq a2), (14, dIq a3)] [] [] [] [])
theorem aBQ (κ : Tau) (p0 p1 : List aG) : bdy κ 115 [.d (.sl aG.ks (List.map aG.enc p0)), .d (.sl aG.ks (List.map aG.enc p1))] [] [] =
 cond ((lM aG.enc p0 : Int) != (lM aG.enc p1 : Int)) (
 (rB false)) (
 amR lab κ (List.map aG.enc p1) (List.map aG.enc p0) (lM aG.enc p0 : Int) 0) := by kernel_rfl
theorem aym (κ : Tau) (x1 x12 : List aG) (x13 x14 : Int) : amR cA κ (List.map aG.enc x1) (List.map aG.enc x12) x13 x14 =
 cond (decide (x14 < x13)) (
 cond (iB x14 (lM aG.enc x12 : Int)) (
  cond (iB x14 (lM aG.enc x1 : Int)) (
  cond (!(((bM (cE aG.enc x12 x14 0)) == (bM (cE aG.enc x1 x14 0))) && (((aX (cE aG.enc x12 x14 1)) == (aX (cE aG.enc x1 x14 1))) && (((bX (cE aG.enc x12 x14 2)) == (bX (cE aG.enc x1 x14 2))) && true)))) (
   (rB false)) (
  amR lab κ (List.map aG.enc x1) (List.map aG.enc x12) x13 (w6 (x14 + 1)))) none) none) (
 (rB true)) := by kernel_rfl
theorem akv : ∀ (fu : Nat) (x1 x12 : List aG) (x13 x14 : Int), Le (Option.map packet_is_out (oG fu x1 x12 x13 x14)) (amR lab (kF 115) (List.map aG.enc x1) (List.map aG.enc x12) x13 x14) := by
 intro fu
 induction fu with
 | zero => intros; exact le_none
 | succ fu ih =>
  intro x1 x12 x13 x14
  refine bR (aym _ x1 x12 x13 x14) ?_
  unfold oG
  refine lC ?_ ?_
  ·refine lGe ?_
   refine lGe ?_
   refine lDe ?_ ?_
   ·exact aN rfl
   ·exact ih x1 x12 x13 (w6 (x14 + 1))
  ·exact aN rfl
theorem anF (p0 p1 : List aG) : Le (Option.map packet_is_out (zW p0 p1)) (aY SE 115 [.d (.sl aG.ks (List.map aG.enc p0)), .d (.sl aG.ks (List.map aG.enc p1))] [] []) := by
 refine bD (aBQ _ p0 p1) ?_
 unfold zW
 refine lDe ?_ ?_
 ·exact aN rfl
 ·(try simp only [EN]); exact akv fuel p1 p0 (List.length p0 : Int) 0
noncomputable def amw (L : cD) (κ : Tau) (a0 a1 : List (List D)) (a2 a3 : Int) : Res := rl L κ 116 0 [1, 1, 0, 1, 0] (bQ [(1, .d (.sl [.str] a0)), (12, .d (.sl [.str] a1)), (13, dIq a2), (14, dIq a3)] [] [] [] [])
theorem aBD (κ : Tau) (p0 p1 : List Str) : bdy κ 116 [.d (.sl [.str] (List.map aZ p0)), .d (.sl [.str] (List.map aZ p1))] [] [] =
 cond ((lM aZ p0 : Int) != (lM aZ p1 : Int)) (
 (rB false)) (
 amw lab κ (List.map aZ p1) (List.map aZ p0) (lM aZ p0 : Int) 0) := by kernel_rfl
theorem ayA (κ : Tau) (x1 x12 : List Str) (x13 x14 : Int) : amw cA κ (List.map aZ x1) (List.map aZ x12) x13 x14 =
 cond (decide (x14 < x13)) (
 cond (iB x14 (lM aZ x12 : Int)) (
  cond (iB x14 (lM aZ x1 : Int)) (
  cond (!((bM (cE aZ x12 x14 0)) == (bM (cE aZ x1 x14 0)))) (
   (rB false)) (
  amw lab κ (List.map aZ x1) (List.map aZ x12) x13 (w6 (x14 + 1)))) none) none) (
 (rB true)) := by kernel_rfl
theorem ajB : ∀ (fu : Nat) (x1 x12 : List Str) (x13 x14 : Int), Le (Option.map packet_is_out (mW fu x1 x12 x13 x14)) (amw lab (kF 116) (List.map aZ x1) (List.map aZ x12) x13 x14) := by
 intro fu
 induction fu with
 | zero => intros; exact le_none
 | succ fu ih =>
  intro x1 x12 x13 x14
  refine bR (ayA _ x1 x12 x13 x14) ?_
  unfold mW
  refine lC ?_ ?_
  ·refine lGe ?_
   refine lGe ?_
   refine lDe ?_ ?_
   ·exact aN rfl
   ·exact ih x1 x12 x13 (w6 (x14 + 1))
  ·exact aN rfl
theorem ami (p0 p1 : List Str) : Le (Option.map packet_is_out (xJ p0 p1)) (aY SE 116 [.d (.sl [.str] (List.map aZ p0)), .d (.sl [.str] (List.map aZ p1))] [] []) := by
 refine bD (aBD _ p0 p1) ?_
 unfold xJ
 refine lDe ?_ ?_
 ·exact aN rfl
 ·(try simp only [EN]); exact ajB fuel p1 p0 (List.length p0 : Int) 0
noncomputable def alX (L : cD) (κ : Tau) (a0 a1 : List (List D)) (a2 a3 : Int) : Res := rl L κ 117 0 [1, 1, 0, 1, 0] (bQ [(1, .d (.sl [.int .i64] a0)), (12, .d (.sl [.int .i64] a1)), (13, dIq a2), (14, dIq a3)] [] [] [] [])
theorem aAX (κ : Tau) (p0 p1 : List Int) : bdy κ 117 [.d (.sl [.int .i64] (List.map eI p0)), .d (.sl [.int .i64] (List.map eI p1))] [] [] =
 cond ((lM eI p0 : Int) != (lM eI p1 : Int)) (
 (rB false)) (
 alX lab κ (List.map eI p1) (List.map eI p0) (lM eI p0 : Int) 0) := by kernel_rfl
theorem axG (κ : Tau) (x1 x12 : List Int) (x13 x14 : Int) : alX cA κ (List.map eI x1) (List.map eI x12) x13 x14 =
 cond (decide (x14 < x13)) (
 cond (iB x14 (lM eI x12 : Int)) (
  cond (iB x14 (lM eI x1 : Int)) (
  cond ((aX (cE eI x12 x14 0)) != (aX (cE eI x1 x14 0))) (
   (rB false)) (
  alX lab κ (List.map eI x1) (List.map eI x12) x13 (w6 (x14 + 1)))) none) none) (
 (rB true)) := by kernel_rfl
theorem ahD : ∀ (fu : Nat) (x1 x12 : List Int) (x13 x14 : Int), Le (Option.map packet_is_out (lB fu x1 x12 x13 x14)) (alX lab (kF 117) (List.map eI x1) (List.map eI x12) x13 x14) := by
 intro fu
 induction fu with
 | zero => intros; exact le_none
 | succ fu ih =>
  intro x1 x12 x13 x14
  refine bR (axG _ x1 x12 x13 x14) ?_
  unfold lB
  refine lC ?_ ?_
  ·refine lGe ?_
   refine lGe ?_
   refine lDe ?_ ?_
   ·exact aN rfl
   ·exact ih x1 x12 x13 (w6 (x14 + 1))
  ·exact aN rfl
theorem akz (p0 p1 : List Int) : Le (Option.map packet_is_out (uK p0 p1)) (aY SE 117 [.d (.sl [.int .i64] (List.map eI p0)), .d (.sl [.int .i64] (List.map eI p1))] [] []) := by
 refine bD (aAX _ p0 p1) ?_
 unfold uK
 refine lDe ?_ ?_
 ·exact aN rfl
 ·(try simp only [EN]); exact ahD fuel p1 p0 (List.length p0 : Int) 0
theorem T86 (κ : Tau) (p0 p1 : aA) : bdy κ 86 [aA.av p0, aA.av p1] [] [] =
 κ.t 113 mE [aA.av p0] [] [] fun r0 =>
 κ.t 113 mE [aA.av p1] [] [] fun r1 =>
 cond ((r0.kind == r1.kind) && ((r0.id == r1.id) && ((r0.keep == r1.keep) && ((r0.expiry == r1.expiry) && ((r0.window == r1.window) && ((r0.code == r1.code) && ((r0.delay == r1.delay) && ((r0.dup == r1.dup) && ((r0.clean == r1.clean) && ((r0.present == r1.present) && ((r0.set_ == r1.set_) && ((r0.client == r1.client) && ((r0.user == r1.user) && true))))))))))))) (
 κ.t 114 packet_is_out [aF.av p0.Message, aF.av p1.Message] [] [] fun r2 =>
 cond r2 (
  κ.t 114 packet_is_out [aF.av p0.Will.Message, aF.av p1.Will.Message] [] [] fun r3 =>
  cond r3 (
  κ.t 115 packet_is_out [.d (.sl aG.ks (List.map aG.enc p0.Subs)), .d (.sl aG.ks (List.map aG.enc p1.Subs))] [] [] fun r4 =>
  cond r4 (
   κ.t 116 packet_is_out [.d (.sl [.str] (List.map aZ p0.Filters)), .d (.sl [.str] (List.map aZ p1.Filters))] [] [] fun r5 =>
   cond r5 (
   κ.t 117 packet_is_out [.d (.sl [.int .i64] (List.map eI p0.Codes)), .d (.sl [.int .i64] (List.map eI p1.Codes))] [] [] fun r6 =>
   (rB r6)) (
   (rB false))) (
  (rB false))) (
  (rB false))) (
 (rB false))) (
 (rB false)) := by kernel_rfl
theorem an1 (p0 p1 : aA) : Le (Option.map packet_is_out (zQ p0 p1)) (aY SE 86 [aA.av p0, aA.av p1] [] []) := by
 refine bD (T86 _ p0 p1) ?_
 unfold zQ
 repeat' first | (with_reducible first | refine lC ?_ ?_ | refine lQ eX ajj ?_ fun _ _ => ?_ | refine lQ eX packet_is_inj ?_ fun _ _ => ?_ | refine lQ eX packet_is_inj ?_ fun _ _ => ?_ | refine lQ eX packet_is_inj ?_ fun _ _ => ?_ | refine lQ eX packet_is_inj ?_ fun _ _ => ?_ | exact akB _ | exact abx _ _ | exact anF _ _ | exact ami _ _ | exact akz _ _ | refine aN ?_) | rfl | (simp only [EN, packet_is_out] <;> rfl)
noncomputable def amN (L : cD) (κ : Tau) (a0 a1 : Int) (a2 : Bool) (a3 : Str) (a4 : Nat) : Res := rl L κ 118 0 [1, 1, 0, 1, 0, 0, 1, 1, 0, 1, 1, 0] (bQ [(3, dIq a0), (4, .d (.int .i32 a1)), (5, dBq a2), (15, .it 4000)] [] [] [(4000, (a3, a4))] [])
noncomputable def ad4 (L : cD) (κ : Tau) (a0 : Str) (a1 : Nat) : Res := rl L κ 118 0 [1, 1, 0, 1, 0] (bQ [(15, .it 4000)] [] [] [(4000, (a0, a1))] [])
noncomputable def ap1 (L : cD) (κ : Tau) (a0 : Str) : Res := rl L κ 118 0 [1, 1, 0, 0] (bQ [(0, dSq a0)] [] [] [] [])
theorem aBX (κ : Tau) (p0 : Str) : bdy κ 118 [dSq p0] [] [] =
 cond (decide ((List.length p0 : Int) < 1)) (
 (rB false)) (
 cond (decide ((List.length p0 : Int) > 16)) (
 (rB false)) (
 ap1 lab κ p0)) := by kernel_rfl
theorem axW (κ : Tau) (x3 x4 : Int) (x5 : Bool) (s4000 : Str) (i4000 : Nat) : amN cA κ x3 x4 x5 s4000 i4000 =
 cond (!x5) (
 cond (x3 == 0) (
  (rB false)) (
 cond (x4 != 45) (
  cond (decide (x4 < 48)) (
  (rB false)) (
  cond (decide (x4 > 57)) (
  (rB false)) (
  ad4 lab κ s4000 i4000))) (
 ad4 lab κ s4000 i4000))) (
 ad4 lab κ s4000 i4000) := by kernel_rfl
theorem ayt (κ : Tau) (s4000 : Str) (i4000 : Nat) : ad4 cA κ s4000 i4000 =
 cond (decide (i4000 < List.length s4000)) (
 cond (decide (((dec s4000 i4000).1 : Int) ≥ 97)) (
  amN lab κ (i4000 : Int) ((dec s4000 i4000).1 : Int) (decide (((dec s4000 i4000).1 : Int) ≤ 122)) s4000 (i4000 + (dec s4000 i4000).2)) (
 amN lab κ (i4000 : Int) ((dec s4000 i4000).1 : Int) false s4000 (i4000 + (dec s4000 i4000).2))) (
 (rB true)) := by kernel_rfl
theorem ayR (κ : Tau) (x0 : Str) : ap1 cA κ x0 =
 ad4 lab κ x0 0 := by kernel_rfl
theorem alD (k4 : Str → Nat → Option (Bool)) (hk4 : ∀ (s4000 : Str) (i4000 : Nat), Le (Option.map packet_is_out (k4 s4000 i4000)) (ad4 lab (kF 118) s4000 i4000)) (x3 x4 : Int) (x5 : Bool) (s4000 : Str) (i4000 : Nat) : Le (Option.map packet_is_out (qB k4 x3 x4 x5 s4000 i4000)) (amN lab (kF 118) x3 x4 x5 s4000 i4000) := by
 refine bR (axW _ x3 x4 x5 s4000 i4000) ?_
 unfold qB
 repeat' first | (with_reducible first | refine lC ?_ ?_ | exact hk4 _ _ | refine aN ?_) | rfl | (simp only [EN, packet_is_out] <;> rfl)
theorem alw : ∀ (fu : Nat) (s4000 : Str) (i4000 : Nat), Le (Option.map packet_is_out (lU fu s4000 i4000)) (ad4 lab (kF 118) s4000 i4000) := by
 intro fu
 induction fu with
 | zero => intros; exact le_none
 | succ fu ih =>
  intro s4000 i4000
  refine bR (ayt _ s4000 i4000) ?_
  unfold lU
  repeat' first | (with_reducible first | refine lC ?_ ?_ | exact alD _ (ih) _ _ _ _ _ | refine aN ?_) | rfl | (simp only [EN, packet_is_out] <;> rfl)
theorem alG (x0 : Str) : Le (Option.map packet_is_out (aan x0)) (ap1 lab (kF 118) x0) := by
 refine bR (ayR _ x0) ?_
 unfold aan
 exact alw fuel x0 0
theorem aal (p0 : Str) : Le (Option.map packet_is_out (oU p0)) (aY SE 118 [dSq p0] [] []) := by
 refine bD (aBX _ p0) ?_
 unfold oU
 refine lC ?_ ?_
 ·exact aN rfl
 ·refine lC ?_ ?_
  ·exact aN rfl
  ·exact alG p0
noncomputable def ajH (L : cD) (κ : Tau) (a0 : Int) (a1 : Str) (a2 : Nat) : Res := rl L κ 139 0 [1, 1, 1, 0, 1, 0] (bQ [(3, dIq a0), (15, .it 4000)] [] [] [(4000, (a1, a2))] [])
noncomputable def aqJ (L : cD) (κ : Tau) (a0 : Str) : Res := rl L κ 139 0 [1, 1, 0] (bQ [(0, dSq a0)] [] [] [] [])
theorem aB6 (κ : Tau) (p0 : Str) : bdy κ 139 [dSq p0] [] [] =
 cond (decide ((List.length p0 : Int) < 1)) (
 (rB false)) (
 cond (decide ((List.length p0 : Int) > 64)) (
 (rB false)) (
 aqJ lab κ p0)) := by kernel_rfl
theorem ayy (κ : Tau) (x3 : Int) (s4000 : Str) (i4000 : Nat) : ajH cA κ x3 s4000 i4000 =
 cond (decide (i4000 < List.length s4000)) (
 cond (((dec s4000 i4000).1 : Int) == 0) (
  (rB false)) (
 cond (((dec s4000 i4000).1 : Int) == 47) (
  ajH lab κ (w6 (x3 + 1)) s4000 (i4000 + (dec s4000 i4000).2)) (
 ajH lab κ x3 s4000 (i4000 + (dec s4000 i4000).2)))) (
 (rB (decide (x3 ≤ 8)))) := by kernel_rfl
theorem ay4 (κ : Tau) (x0 : Str) : aqJ cA κ x0 =
 ajH lab κ 1 x0 0 := by kernel_rfl
theorem aku : ∀ (fu : Nat) (x3 : Int) (s4000 : Str) (i4000 : Nat), Le (Option.map packet_is_out (kR fu x3 s4000 i4000)) (ajH lab (kF 139) x3 s4000 i4000) := by
 intro fu
 induction fu with
 | zero => intros; exact le_none
 | succ fu ih =>
  intro x3 s4000 i4000
  refine bR (ayy _ x3 s4000 i4000) ?_
  unfold kR
  repeat' first | (with_reducible first | refine lC ?_ ?_ | exact ih _ _ _ | refine aN ?_) | rfl | (simp only [EN, packet_is_out] <;> rfl)
theorem akE (x0 : Str) : Le (Option.map packet_is_out (y8 x0)) (aqJ lab (kF 139) x0) := by
 refine bR (ay4 _ x0) ?_
 unfold y8
 exact aku fuel 1 x0 0
theorem ag3 (p0 : Str) : Le (Option.map packet_is_out (wM p0)) (aY SE 139 [dSq p0] [] []) := by
 refine bD (aB6 _ p0) ?_
 unfold wM
 refine lC ?_ ?_
 ·exact aN rfl
 ·refine lC ?_ ?_
  ·exact aN rfl
  ·exact akE p0
noncomputable def amc (L : cD) (κ : Tau) (a0 : Str) (a1 : Nat) : Res := rl L κ 132 0 [1, 1, 0, 1, 0] (bQ [(9, .it 4000)] [] [] [(4000, (a0, a1))] [])
theorem aAR (κ : Tau) (p0 : Str) : bdy κ 132 [dSq p0] [] [] =
 κ.t 139 packet_is_out [dSq p0] [] [] fun r0 =>
 cond (!r0) (
 (rB false)) (
 amc lab κ p0 0) := by kernel_rfl
theorem ayC (κ : Tau) (s4000 : Str) (i4000 : Nat) : amc cA κ s4000 i4000 =
 cond (decide (i4000 < List.length s4000)) (
 cond (((dec s4000 i4000).1 : Int) == 43) (
  (rB false)) (
 cond (((dec s4000 i4000).1 : Int) == 35) (
  (rB false)) (
 amc lab κ s4000 (i4000 + (dec s4000 i4000).2)))) (
 (rB true)) := by kernel_rfl
theorem aks : ∀ (fu : Nat) (s4000 : Str) (i4000 : Nat), Le (Option.map packet_is_out (mM fu s4000 i4000)) (amc lab (kF 132) s4000 i4000) := by
 intro fu
 induction fu with
 | zero => intros; exact le_none
 | succ fu ih =>
  intro s4000 i4000
  refine bR (ayC _ s4000 i4000) ?_
  unfold mM
  refine lC ?_ ?_
  ·refine lC ?_ ?_
   ·exact aN rfl
   ·refine lC ?_ ?_
    ·exact aN rfl
    ·exact ih s4000 (i4000 + (dec s4000 i4000).2)
  ·exact aN rfl
theorem anz (p0 : Str) : Le (Option.map packet_is_out (zP p0)) (aY SE 132 [dSq p0] [] []) := by
 refine bD (aAR _ p0) ?_
 unfold zP
 refine lQ eX packet_is_inj (ag3 _) fun r0 _ => ?_
 refine lC ?_ ?_
 ·exact aN rfl
 ·exact aks fuel p0 0
theorem aB9 (κ : Tau) (p0 p1 : Int) : bdy κ 133 [dIq p0, dIq p1] [] [] =
 cond (decide (p0 ≥ 0)) (
 (rB (decide (p0 ≤ p1)))) (
 (rB false)) := by kernel_rfl
theorem ao5 (p0 p1 : Int) : Le (Option.map packet_is_out (qO p0 p1)) (aY SE 133 [dIq p0, dIq p1] [] []) := by
 refine bD (aB9 _ p0 p1) ?_
 unfold qO
 refine lC ?_ ?_
 ·exact aN rfl
 ·exact aN rfl
noncomputable def zO (L : cD) (κ : Tau) (a0 : Str) (a1 : Int) : Res := rl L κ 140 0 [1, 1, 0, 1, 0] (bQ [(0, dSq a0), (3, dIq a1)] [] [] [] [])
noncomputable def ap9 (L : cD) (κ : Tau) (a0 : Str) : Res := rl L κ 140 0 [1, 1, 0, 0] (bQ [(0, dSq a0)] [] [] [] [])
theorem aBe (κ : Tau) (p0 : Str) : bdy κ 140 [dSq p0] [] [] =
 cond (decide ((List.length p0 : Int) < 1)) (
 (rB false)) (
 cond (decide ((List.length p0 : Int) > 16)) (
 (rB false)) (
 ap9 lab κ p0)) := by kernel_rfl
theorem ayw (κ : Tau) (x0 : Str) (x3 : Int) : zO cA κ x0 x3 =
 cond (decide (x3 < (List.length x0 : Int))) (
 cond (iB x3 (List.length x0 : Int)) (
  cond (decide ((UInt8.toNat (List.getD x0 (Int.toNat x3) 0) : Int) < 97)) (
  cond (decide ((UInt8.toNat (List.getD x0 (Int.toNat x3) 0) : Int) < 48)) (
   cond ((UInt8.toNat (List.getD x0 (Int.toNat x3) 0) : Int) != 45) (
   (rB false)) (
   zO lab κ x0 (w6 (x3 + 1)))) (
  cond (decide ((UInt8.toNat (List.getD x0 (Int.toNat x3) 0) : Int) > 57)) (
   cond ((UInt8.toNat (List.getD x0 (Int.toNat x3) 0) : Int) != 45) (
   (rB false)) (
   zO lab κ x0 (w6 (x3 + 1)))) (
  zO lab κ x0 (w6 (x3 + 1))))) (
  cond (decide ((UInt8.toNat (List.getD x0 (Int.toNat x3) 0) : Int) > 122)) (
  cond (decide ((UInt8.toNat (List.getD x0 (Int.toNat x3) 0) : Int) < 48)) (
   cond ((UInt8.toNat (List.getD x0 (Int.toNat x3) 0) : Int) != 45) (
   (rB false)) (
   zO lab κ x0 (w6 (x3 + 1)))) (
  cond (decide ((UInt8.toNat (List.getD x0 (Int.toNat x3) 0) : Int) > 57)) (
   cond ((UInt8.toNat (List.getD x0 (Int.toNat x3) 0) : Int) != 45) (
   (rB false)) (
   zO lab κ x0 (w6 (x3 + 1)))) (
  zO lab κ x0 (w6 (x3 + 1))))) (
  zO lab κ x0 (w6 (x3 + 1))))) none) (
 (rB true)) := by kernel_rfl
theorem ax0 (κ : Tau) (x0 : Str) : ap9 cA κ x0 =
 zO lab κ x0 0 := by kernel_rfl
theorem akC : ∀ (fu : Nat) (x0 : Str) (x3 : Int), Le (Option.map packet_is_out (gI fu x0 x3)) (zO lab (kF 140) x0 x3) := by
 intro fu
 induction fu with
 | zero => intros; exact le_none
 | succ fu ih =>
  intro x0 x3
  refine bR (ayw _ x0 x3) ?_
  unfold gI
  repeat' first | (with_reducible first | refine lF ?_ | refine lC ?_ ?_ | exact ih _ _ | refine aN ?_) | rfl | (simp only [EN, packet_is_out] <;> rfl)
theorem aky (x0 : Str) : Le (Option.map packet_is_out (yY x0)) (ap9 lab (kF 140) x0) := by
 refine bR (ax0 _ x0) ?_
 unfold yY
 exact akC fuel x0 0
theorem agr (p0 : Str) : Le (Option.map packet_is_out (zY p0)) (aY SE 140 [dSq p0] [] []) := by
 refine bD (aBe _ p0) ?_
 unfold zY
 refine lC ?_ ?_
 ·exact aN rfl
 ·refine lC ?_ ?_
  ·exact aN rfl
  ·exact aky p0
noncomputable def aiV (L : cD) (κ : Tau) (a0 a1 : List (List D)) (a2 a3 : Int) : Res := rl L κ 134 0 [1, 1, 0, 1, 0] (bQ [(0, .d (.sl aE.ks a0)), (8, .d (.sl aE.ks a1)), (9, dIq a2), (10, dIq a3)] [] [] [] [])
theorem aA3 (κ : Tau) (p0 : List aE) : bdy κ 134 [.d (.sl aE.ks (List.map aE.enc p0))] [] [] =
 cond (decide ((lM aE.enc p0 : Int) > 8)) (
 (rI 5)) (
 aiV lab κ (List.map aE.enc p0) (List.map aE.enc p0) (lM aE.enc p0 : Int) 0) := by kernel_rfl
theorem axZ (κ : Tau) (x0 x8 : List aE) (x9 x10 : Int) : aiV cA κ (List.map aE.enc x0) (List.map aE.enc x8) x9 x10 =
 cond (decide (x10 < x9)) (
 cond (iB x10 (lM aE.enc x8 : Int)) (
  κ.t 140 packet_is_out [dSq (bM (cE aE.enc x8 x10 0))] [] [] fun r0 =>
  cond (!r0) (
  (rI 16)) (
  cond (decide ((List.length (bM (cE aE.enc x8 x10 1)) : Int) > 160)) (
  (rI 5)) (
  cond (decide (x10 > 0)) (
  cond (iB (w6 (x10 - 1)) (lM aE.enc x0 : Int)) (
   cond (Op.bytesLess (bM (cE aE.enc x8 x10 0)) (bM (cE aE.enc x0 (w6 (x10 - 1)) 0)) || (bM (cE aE.enc x8 x10 0)) == (bM (cE aE.enc x0 (w6 (x10 - 1)) 0))) (
   (rI 16)) (
   aiV lab κ (List.map aE.enc x0) (List.map aE.enc x8) x9 (w6 (x10 + 1)))) none) (
  aiV lab κ (List.map aE.enc x0) (List.map aE.enc x8) x9 (w6 (x10 + 1)))))) none) (
 (rI 0)) := by kernel_rfl
theorem air : ∀ (fu : Nat) (x0 x8 : List aE) (x9 x10 : Int), Le (Option.map aH (kK fu x0 x8 x9 x10)) (aiV lab (kF 134) (List.map aE.enc x0) (List.map aE.enc x8) x9 x10) := by
 intro fu
 induction fu with
 | zero => intros; exact le_none
 | succ fu ih =>
  intro x0 x8 x9 x10
  refine bR (axZ _ x0 x8 x9 x10) ?_
  unfold kK
  repeat' first | (with_reducible first | refine lC ?_ ?_ | refine lQ eX packet_is_inj ?_ fun _ _ => ?_ | refine lG ?_ ?_ | refine lD ?_ ?_ ?_ | exact agr _ | exact ih _ _ _ _ | refine aN ?_) | rfl | (simp only [EN]; done) | (simp only [EN]; exact agr _) | (simp only [EN, aH] <;> rfl)
theorem ali (p0 : List aE) : Le (Option.map aH (sO p0)) (aY SE 134 [.d (.sl aE.ks (List.map aE.enc p0))] [] []) := by
 refine bD (aA3 _ p0) ?_
 unfold sO
 refine lDe ?_ ?_
 ·exact aN rfl
 ·(try simp only [EN]); exact air fuel p0 p0 (List.length p0 : Int) 0
theorem aBx (κ : Tau) (p0 : aF) : bdy κ 119 [aF.av p0] [] [] =
 κ.t 132 packet_is_out [dSq p0.Topic] [] [] fun r0 =>
 cond (!r0) (
 (rI 12)) (
 cond (decide ((List.length p0.Payload : Int) > 256)) (
 (rI 5)) (
 κ.t 133 packet_is_out [dIq p0.Level, dIq 2] [] [] fun r1 =>
 cond (!r1) (
 (rI 14)) (
 κ.t 133 packet_is_out [dIq p0.Priority, dIq 9] [] [] fun r2 =>
 cond (!r2) (
 (rI 1)) (
 κ.t 133 packet_is_out [dIq p0.Expires, dIq 1099511627776] [] [] fun r3 =>
 cond (!r3) (
 (rI 1)) (
 cond (!(p0.From == ([] : Str))) (
 κ.t 118 packet_is_out [dSq p0.From] [] [] fun r4 =>
 cond (!r4) (
  (rI 11)) (
 κ.t 133 packet_is_out [dIq p0.Seq, dIq 1099511627776] [] [] fun r5 =>
 cond (!r5) (
  (rI 1)) (
 κ.t 134 aH [.d (.sl aE.ks (List.map aE.enc p0.Props))] [] [] fun r6 =>
 (rI r6)))) (
 κ.t 133 packet_is_out [dIq p0.Seq, dIq 1099511627776] [] [] fun r7 =>
 cond (!r7) (
 (rI 1)) (
 κ.t 134 aH [.d (.sl aE.ks (List.map aE.enc p0.Props))] [] [] fun r8 =>
 (rI r8)))))))) := by kernel_rfl
theorem rL (p0 : aF) : Le (Option.map aH (jO p0)) (aY SE 119 [aF.av p0] [] []) := by
 refine bD (aBx _ p0) ?_
 unfold jO
 repeat' first | (with_reducible first | refine lC ?_ ?_ | refine lQ eX packet_is_inj ?_ fun _ _ => ?_ | refine lQ eX packet_is_inj ?_ fun _ _ => ?_ | refine lQ eX packet_is_inj ?_ fun _ _ => ?_ | refine lQ eX bA ?_ fun _ _ => ?_ | exact anz _ | exact ao5 _ _ | exact aal _ | exact ali _ | refine aN ?_) | rfl | (simp only [EN, aH] <;> rfl)
theorem T88 (κ : Tau) (p0 : aA) : bdy κ 88 [aA.av p0] [] [] =
 κ.t 118 packet_is_out [dSq p0.Client] [] [] fun r0 =>
 cond (!r0) (
 (rI 11)) (
 cond (!(p0.User == ([] : Str))) (
 κ.t 118 packet_is_out [dSq p0.User] [] [] fun r1 =>
 cond (!r1) (
  (rI 11)) (
 κ.t 85 packet_is_out [dIq p0.Keep, dIq 0, dIq 1099511627776] [] [] fun r2 =>
 cond (!r2) (
  (rI 1)) (
 κ.t 85 packet_is_out [dIq p0.Expiry, dIq 0, dIq 1099511627776] [] [] fun r3 =>
 cond (!r3) (
  (rI 1)) (
 κ.t 85 packet_is_out [dIq p0.Window, dIq 1, dIq 32] [] [] fun r4 =>
 cond (!r4) (
  (rI 1)) (
 cond (!p0.Will.Set) (
  cond (p0.Will.Delay != 0) (
  (rI 28)) (
  κ.t 114 packet_is_out [aF.av p0.Will.Message, .agg [dSq [], dSq [], dIq 0, dBq false, dIq 0, dIq 0, dSq [], dIq 0, .d (.sl aE.ks (List.map aE.enc []))]] [] [] fun r5 =>
  cond (!r5) (
  (rI 28)) (
  cond (!p0.Will.Set) (
  (rI 0)) (
  κ.t 85 packet_is_out [dIq p0.Will.Delay, dIq 0, dIq 1099511627776] [] [] fun r6 =>
  cond (!r6) (
  (rI 1)) (
  κ.t 119 aH [aF.av p0.Will.Message] [] [] fun r7 =>
  (rI r7)))))) (
 cond (!p0.Will.Set) (
  (rI 0)) (
 κ.t 85 packet_is_out [dIq p0.Will.Delay, dIq 0, dIq 1099511627776] [] [] fun r8 =>
 cond (!r8) (
  (rI 1)) (
 κ.t 119 aH [aF.av p0.Will.Message] [] [] fun r9 =>
 (rI r9))))))))) (
 κ.t 85 packet_is_out [dIq p0.Keep, dIq 0, dIq 1099511627776] [] [] fun r10 =>
 cond (!r10) (
 (rI 1)) (
 κ.t 85 packet_is_out [dIq p0.Expiry, dIq 0, dIq 1099511627776] [] [] fun r11 =>
 cond (!r11) (
 (rI 1)) (
 κ.t 85 packet_is_out [dIq p0.Window, dIq 1, dIq 32] [] [] fun r12 =>
 cond (!r12) (
 (rI 1)) (
 cond (!p0.Will.Set) (
 cond (p0.Will.Delay != 0) (
  (rI 28)) (
 κ.t 114 packet_is_out [aF.av p0.Will.Message, .agg [dSq [], dSq [], dIq 0, dBq false, dIq 0, dIq 0, dSq [], dIq 0, .d (.sl aE.ks (List.map aE.enc []))]] [] [] fun r13 =>
 cond (!r13) (
  (rI 28)) (
 cond (!p0.Will.Set) (
  (rI 0)) (
 κ.t 85 packet_is_out [dIq p0.Will.Delay, dIq 0, dIq 1099511627776] [] [] fun r14 =>
 cond (!r14) (
  (rI 1)) (
 κ.t 119 aH [aF.av p0.Will.Message] [] [] fun r15 =>
 (rI r15)))))) (
 cond (!p0.Will.Set) (
 (rI 0)) (
 κ.t 85 packet_is_out [dIq p0.Will.Delay, dIq 0, dIq 1099511627776] [] [] fun r16 =>
 cond (!r16) (
 (rI 1)) (
 κ.t 119 aH [aF.av p0.Will.Message] [] [] fun r17 =>
 (rI r17))))))))) := by kernel_rfl
theorem akr (p0 : aA) : Le (Option.map aH (uH p0)) (aY SE 88 [aA.av p0] [] []) := by
 refine bD (T88 _ p0) ?_
 unfold uH
 refine lQ eX packet_is_inj (aal _) fun r0 _ => ?_
 refine lC ?_ ?_
 ·exact aN rfl
 ·refine lC ?_ ?_
  ·refine lQ eX packet_is_inj (aal _) fun r1 _ => ?_
   refine lC ?_ ?_
   ·exact aN rfl
   ·refine lQ eX packet_is_inj (fW _ _ _) fun r2 _ => ?_
    refine lC ?_ ?_
    ·exact aN rfl
    ·refine lQ eX packet_is_inj (fW _ _ _) fun r3 _ => ?_
     refine lC ?_ ?_
     ·exact aN rfl
     ·refine lQ eX packet_is_inj (fW _ _ _) fun r4 _ => ?_
      refine lC ?_ ?_
      ·exact aN rfl
      ·refine lC ?_ ?_
       ·refine lC ?_ ?_
        ·exact aN rfl
        ·refine lQ eX packet_is_inj (by (try simp only [EN]); exact abx p0.Will.Message (zMq)) fun r5 _ => ?_
         refine lC ?_ ?_
         ·exact aN rfl
         ·refine lC ?_ ?_
          ·exact aN rfl
          ·refine lQ eX packet_is_inj (fW _ _ _) fun r6 _ => ?_
           refine lC ?_ ?_
           ·exact aN rfl
           ·refine lQ eX bA (rL _) fun r7 _ => ?_
            exact aN rfl
       ·refine lC ?_ ?_
        ·exact aN rfl
        ·refine lQ eX packet_is_inj (fW _ _ _) fun r8 _ => ?_
         refine lC ?_ ?_
         ·exact aN rfl
         ·refine lQ eX bA (rL _) fun r9 _ => ?_
          exact aN rfl
  ·refine lQ eX packet_is_inj (fW _ _ _) fun r10 _ => ?_
   refine lC ?_ ?_
   ·exact aN rfl
   ·refine lQ eX packet_is_inj (fW _ _ _) fun r11 _ => ?_
    refine lC ?_ ?_
    ·exact aN rfl
    ·refine lQ eX packet_is_inj (fW _ _ _) fun r12 _ => ?_
     refine lC ?_ ?_
     ·exact aN rfl
     ·refine lC ?_ ?_
      ·refine lC ?_ ?_
       ·exact aN rfl
       ·refine lQ eX packet_is_inj (by (try simp only [EN]); exact abx p0.Will.Message (zMq)) fun r13 _ => ?_
        refine lC ?_ ?_
        ·exact aN rfl
        ·refine lC ?_ ?_
         ·exact aN rfl
         ·refine lQ eX packet_is_inj (fW _ _ _) fun r14 _ => ?_
          refine lC ?_ ?_
          ·exact aN rfl
          ·refine lQ eX bA (rL _) fun r15 _ => ?_
           exact aN rfl
      ·refine lC ?_ ?_
       ·exact aN rfl
       ·refine lQ eX packet_is_inj (fW _ _ _) fun r16 _ => ?_
        refine lC ?_ ?_
        ·exact aN rfl
        ·refine lQ eX bA (rL _) fun r17 _ => ?_
         exact aN rfl
theorem T89 (κ : Tau) (p0 : Int) : bdy κ 89 [dIq p0] [] [] =
 κ.t 85 packet_is_out [dIq p0, dIq 0, dIq 29] [] [] fun r0 =>
 (rB r0) := by kernel_rfl
theorem ag8 (p0 : Int) : Le (Option.map packet_is_out (tP p0)) (aY SE 89 [dIq p0] [] []) := by
 refine bD (T89 _ p0) ?_
 unfold tP
 refine lQ eX packet_is_inj (fW _ _ _) fun r0 _ => ?_
 exact aN rfl
theorem T91 (κ : Tau) (p0 : Int) : bdy κ 91 [dIq p0] [] [] =
 κ.t 85 packet_is_out [dIq p0, dIq 1, dIq 65535] [] [] fun r0 =>
 cond (!r0) (
 (rI 15)) (
 (rI 0)) := by kernel_rfl
theorem afy (p0 : Int) : Le (Option.map aH (mU p0)) (aY SE 91 [dIq p0] [] []) := by
 refine bD (T91 _ p0) ?_
 unfold mU
 refine lQ eX packet_is_inj (fW _ _ _) fun r0 _ => ?_
 refine lC ?_ ?_
 ·exact aN rfl
 ·exact aN rfl
theorem T90 (κ : Tau) (p0 : aA) : bdy κ 90 [aA.av p0] [] [] =
 κ.t 119 aH [aF.av p0.Message] [] [] fun r0 =>
 cond (r0 != 0) (
 (rI r0)) (
 cond (p0.Message.Level != 0) (
 κ.t 91 aH [dIq p0.ID] [] [] fun r1 =>
 (rI r1)) (
 cond (p0.ID != 0) (
 (rI 15)) (
 cond p0.Dup (
 (rI 28)) (
 (rI 0))))) := by kernel_rfl
theorem akw (p0 : aA) : Le (Option.map aH (uE p0)) (aY SE 90 [aA.av p0] [] []) := by
 refine bD (T90 _ p0) ?_
 unfold uE
 repeat' first | (with_reducible first | refine lC ?_ ?_ | refine lQ eX bA ?_ fun _ _ => ?_ | refine lQ eX bA ?_ fun _ _ => ?_ | exact rL _ | exact afy _ | refine aN ?_) | rfl | (simp only [EN, aH] <;> rfl)
theorem aAY (κ : Tau) (p0 p1 : Int) : bdy κ 120 [dIq p0, dIq p1] [] [] =
 κ.t 85 packet_is_out [dIq p0, dIq 1, dIq 65535] [] [] fun r0 =>
 cond (!r0) (
 (rI 15)) (
 cond (p1 == 0) (
 (rI 1)) (
 cond (decide (p1 > 32)) (
 (rI 5)) (
 (rI 0)))) := by kernel_rfl
theorem zF (p0 p1 : Int) : Le (Option.map aH (oQ p0 p1)) (aY SE 120 [dIq p0, dIq p1] [] []) := by
 refine bD (aAY _ p0 p1) ?_
 unfold oQ
 refine lQ eX packet_is_inj (fW _ _ _) fun r0 _ => ?_
 refine lC ?_ ?_
 ·exact aN rfl
 ·refine lC ?_ ?_
  ·exact aN rfl
  ·refine lC ?_ ?_
   ·exact aN rfl
   ·exact aN rfl
theorem aBE (κ : Tau) (p0 p1 : Str) : bdy κ 144 [dSq p0, dSq p1] [] [] =
 cond (decide ((List.length p0 : Int) ≥ (List.length p1 : Int))) (
 cond (decide (0 ≤ (List.length p1 : Int)) && decide ((List.length p1 : Int) ≤ ((List.length p0) : Int))) (
  (rB ((cF p0 none (some (List.length p1 : Int))) == p1))) none) (
 (rB false)) := by kernel_rfl
theorem yH (p0 p1 : Str) : Le (Option.map packet_is_out (j8 p0 p1)) (aY SE 144 [dSq p0, dSq p1] [] []) := by
 refine bD (aBE _ p0 p1) ?_
 unfold j8
 refine lC ?_ ?_
 ·refine lF ?_
  exact aN rfl
 ·exact aN rfl
theorem aA2 (κ : Tau) (p0 p1 : Str) : bdy κ 145 [dSq p0, dSq p1] [] [] =
 κ.t 144 packet_is_out [dSq p0, dSq p1] [] [] fun r0 =>
 cond (!r0) (
 (some (.ret [dSq p0, dBq false] [] []))) (
 cond (decide (0 ≤ (List.length p1 : Int)) && decide ((List.length p1 : Int) ≤ ((List.length p0) : Int))) (
 (some (.ret [dSq (cF p0 (some (List.length p1 : Int)) none), dBq true] [] []))) none) := by kernel_rfl
theorem adJ (p0 p1 : Str) : Le (Option.map fB (pQ p0 p1)) (aY SE 145 [dSq p0, dSq p1] [] []) := by
 refine bD (aA2 _ p0 p1) ?_
 unfold pQ
 refine lQ eX packet_is_inj (yH _ _) fun r0 _ => ?_
 refine lC ?_ ?_
 ·exact aN rfl
 ·refine lF ?_
  exact aN rfl
theorem aBg (κ : Tau) (p0 p1 : Str) : bdy κ 141 [dSq p0, dSq p1] [] [] =
 κ.t 145 fB [dSq p0, dSq p1] [] [] fun r0 =>
 (some (.ret [dSq r0.1, dBq r0.2] [] [])) := by kernel_rfl
theorem ahz (p0 p1 : Str) : Le (Option.map fB (qK p0 p1)) (aY SE 141 [dSq p0, dSq p1] [] []) := by
 refine bD (aBg _ p0 p1) ?_
 unfold qK
 refine lQ eX wX (adJ _ _) fun r0 _ => ?_
 exact aN rfl
theorem aBO (κ : Tau) (p0 : Str) (p1 : Int) : bdy κ 150 [dSq p0, .d (.int .u8 p1)] [] [] =
 (rI (Lib.indexByte p0 (UInt8.ofNat (Int.toNat p1)) : Int)) := by kernel_rfl
theorem aeD (p0 : Str) (p1 : Int) : Le (Option.map aH (uC p0 p1)) (aY SE 150 [dSq p0, .d (.int .u8 p1)] [] []) := by
 refine bD (aBO _ p0 p1) ?_
 unfold uC
 exact aN rfl
theorem aBR (κ : Tau) (p0 p1 : Str) : bdy κ 148 [dSq p0, dSq p1] [] [] =
 cond ((List.length p1 : Int) == 0) (
 (rI 0)) (
 cond (p1 == p0) (
 (rI 0)) (
 cond ((List.length p1 : Int) == 1) (
 cond (decide (0 ≤ 0) && decide (0 < (List.length p1 : Int))) (
  κ.t 150 aH [dSq p0, .d (.int .u8 (UInt8.toNat (List.getD p1 (Int.toNat 0) 0) : Int))] [] [] fun r0 =>
  (rI r0)) none) (
 cond (decide ((List.length p1 : Int) ≥ (List.length p0 : Int))) (
 (rI (-1))) none))) := by kernel_rfl
theorem aa8 (p0 p1 : Str) : Le (Option.map aH (lA p0 p1)) (aY SE 148 [dSq p0, dSq p1] [] []) := by
 refine bD (aBR _ p0 p1) ?_
 unfold lA
 refine lC ?_ ?_
 ·exact aN rfl
 ·refine lC ?_ ?_
  ·exact aN rfl
  ·refine lC ?_ ?_
   ·refine lF ?_
    refine lQ eX bA (aeD _ _) fun r0 _ => ?_
    exact aN rfl
   ·refine lF ?_
    exact aN rfl
theorem aBu (κ : Tau) (p0 p1 : Str) : bdy κ 146 [dSq p0, dSq p1] [] [] =
 κ.t 148 aH [dSq p0, dSq p1] [] [] fun r0 =>
 cond (decide (r0 ≥ 0)) (
 cond (decide (0 ≤ r0) && decide (r0 ≤ ((List.length p0) : Int))) (
  cond (decide (0 ≤ (w6 (r0 + (List.length p1 : Int)))) && decide ((w6 (r0 + (List.length p1 : Int))) ≤ ((List.length p0) : Int))) (
  (some (.ret [dSq (cF p0 none (some r0)), dSq (cF p0 (some (w6 (r0 + (List.length p1 : Int)))) none), dBq true] [] []))) none) none) (
 (some (bV (p0, [], false)))) := by kernel_rfl
theorem ajU (p0 p1 : Str) : Le (Option.map bV (w9 p0 p1)) (aY SE 146 [dSq p0, dSq p1] [] []) := by
 refine bD (aBu _ p0 p1) ?_
 unfold w9
 refine lQ eX bA (aa8 _ _) fun r0 _ => ?_
 refine lC ?_ ?_
 ·refine lF ?_
  refine lF ?_
  exact aN rfl
 ·exact aN rfl
theorem aAV (κ : Tau) (p0 p1 : Str) : bdy κ 142 [dSq p0, dSq p1] [] [] =
 κ.t 146 bV [dSq p0, dSq p1] [] [] fun r0 =>
 (some (bV (r0.1, r0.2.1, r0.2.2))) := by kernel_rfl
theorem anK (p0 p1 : Str) : Le (Option.map bV (zX p0 p1)) (aY SE 142 [dSq p0, dSq p1] [] []) := by
 refine bD (aAV _ p0 p1) ?_
 unfold zX
 refine lQ eX oD (ajU _ _) fun r0 _ => ?_
 exact aN rfl
theorem aBq (κ : Tau) (p0 p1 : Str) : bdy κ 156 [dSq p0, dSq p1] [] [] =
 κ.t 148 aH [dSq p0, dSq p1] [] [] fun r0 =>
 (rI r0) := by kernel_rfl
theorem aec (p0 p1 : Str) : Le (Option.map aH (n6 p0 p1)) (aY SE 156 [dSq p0, dSq p1] [] []) := by
 refine bD (aBq _ p0 p1) ?_
 unfold n6
 refine lQ eX bA (aa8 _ _) fun r0 _ => ?_
 exact aN rfl
noncomputable def am9 (L : cD) (κ : Tau) (a0 a1 : Str) (a2 : Int) : Res := rl L κ 155 0 [1, 1, 1, 1, 0] (bQ [(0, dSq a0), (1, dSq a1), (5, dIq a2)] [] [] [] [])
theorem aBr (κ : Tau) (p0 p1 : Str) : bdy κ 155 [dSq p0, dSq p1] [] [] =
 cond ((List.length p1 : Int) == 0) (
 none) (
 cond ((List.length p1 : Int) == 1) (
 cond (decide (0 ≤ 0) && decide (0 < (List.length p1 : Int))) (
  (rI (Lib.countByte p0 (UInt8.ofNat (Int.toNat (UInt8.toNat (List.getD p1 (Int.toNat 0) 0) : Int))) : Int))) none) (
 am9 lab κ p0 p1 0)) := by kernel_rfl
theorem axI (κ : Tau) (x0 x1 : Str) (x5 : Int) : am9 cA κ x0 x1 x5 =
 κ.t 156 aH [dSq x0, dSq x1] [] [] fun r0 =>
 cond (r0 == (-1)) (
 (rI x5)) (
 cond (decide (0 ≤ (w6 (r0 + (List.length x1 : Int)))) && decide ((w6 (r0 + (List.length x1 : Int))) ≤ ((List.length x0) : Int))) (
 am9 lab κ (cF x0 (some (w6 (r0 + (List.length x1 : Int)))) none) x1 (w6 (x5 + 1))) none) := by kernel_rfl
theorem aiq : ∀ (fu : Nat) (x0 x1 : Str) (x5 : Int), Le (Option.map aH (vR fu x0 x1 x5)) (am9 lab (kF 155) x0 x1 x5) := by
 intro fu
 induction fu with
 | zero => intros; exact le_none
 | succ fu ih =>
  intro x0 x1 x5
  refine bR (axI _ x0 x1 x5) ?_
  unfold vR
  refine lQ eX bA (aec _ _) fun r0 _ => ?_
  refine lC ?_ ?_
  ·exact aN rfl
  ·refine lF ?_
   exact ih (cF x0 (some (w6 (r0 + (List.length x1 : Int)))) none) x1 (w6 (x5 + 1))
theorem aln (p0 p1 : Str) : Le (Option.map aH (wC p0 p1)) (aY SE 155 [dSq p0, dSq p1] [] []) := by
 refine bD (aBr _ p0 p1) ?_
 unfold wC
 refine lC ?_ ?_
 ·exact le_none
 ·refine lC ?_ ?_
  ·refine lF ?_
   exact aN rfl
  ·exact aiq fuel p0 p1 0
noncomputable def aj6 (L : cD) (κ : Tau) (a0 : Str) (a1 : Int) (a2 : List (List D)) : Res := rl L κ 149 0 [1, 1, 1, 1, 1, 1, 1, 1, 1, 0] (bQ [(0, dSq a0), (9, .row 3009), (10, dIq a1)] [] [] [] [(3009, ⟨[.str], 9, 16, a2⟩)])
noncomputable def ajY (L : cD) (κ : Tau) (a0 a1 : Str) (a2 a3 a4 : Int) (a5 : List (List D)) : Res := rl L κ 149 0 [1, 1, 1, 1, 1, 1, 1, 1, 0, 0] (bQ [(0, dSq a0), (1, dSq a1), (2, dIq a2), (3, dIq a3), (9, .row 3009), (10, dIq a4)] [] [] [] [(3009, ⟨[.str], 9, 16, a5⟩)])
noncomputable def am6 (L : cD) (κ : Tau) (a0 a1 : Str) (a2 a3 : Int) : Res := rl L κ 149 0 [1, 1, 1, 1, 0] (bQ [(0, dSq a0), (1, dSq a1), (2, dIq a2), (3, dIq a3)] [] [] [] [])
theorem aA6 (κ : Tau) (p0 p1 : Str) (p2 p3 : Int) : bdy κ 149 [dSq p0, dSq p1, dIq p2, dIq p3] [] [] =
 cond (p3 == 0) (
 (some (.ret [.d (.sl [.str] (List.map aZ []))] [] []))) (
 cond (p1 == ([] : Str)) (
 none) (
 cond (decide (p3 < 0)) (
 κ.t 155 aH [dSq p0, dSq p1] [] [] fun r0 =>
 am6 lab κ p0 p1 p2 (w6 (r0 + 1))) (
 am6 lab κ p0 p1 p2 p3))) := by kernel_rfl
theorem axk (κ : Tau) (x0 : Str) (x10 : Int) (w3009 : List Str) : aj6 cA κ x0 x10 (List.map aZ w3009) =
 cond (iB x10 (lM aZ w3009 : Int)) (
 cond (decide (0 ≤ (w6 (x10 + 1))) && decide ((w6 (x10 + 1)) ≤ ((List.length (wU (List.map aZ w3009) (Int.toNat x10) 0 [D.str x0])) : Int))) (
  (some (.ret [.d (.sl [.str] (List.take ((Int.toNat (w6 (x10 + 1))) - 0) (List.drop 0 (wU (List.map aZ w3009) (Int.toNat x10) 0 [D.str x0]))))] [] []))) none) none := by kernel_rfl
theorem awV (κ : Tau) (x0 x1 : Str) (x2 x3 x10 : Int) (w3009 : List Str) : ajY cA κ x0 x1 x2 x3 x10 (List.map aZ w3009) =
 cond (decide (x10 < x3)) (
 κ.t 156 aH [dSq x0, dSq x1] [] [] fun r1 =>
 cond (decide (r1 < 0)) (
  aj6 lab κ x0 x10 (List.map aZ w3009)) (
 cond (decide (0 ≤ (w6 (r1 + x2))) && decide ((w6 (r1 + x2)) ≤ ((List.length x0) : Int))) (
  cond (iB x10 (lM aZ w3009 : Int)) (
  cond (decide (0 ≤ (w6 (r1 + (List.length x1 : Int)))) && decide ((w6 (r1 + (List.length x1 : Int))) ≤ ((List.length x0) : Int))) (
   ajY lab κ (cF x0 (some (w6 (r1 + (List.length x1 : Int)))) none) x1 x2 x3 (w6 (x10 + 1)) ((wU (List.map aZ w3009) (Int.toNat x10) 0 [D.str (cF x0 none (some (w6 (r1 + x2))))]))) none) none) none)) (
 aj6 lab κ x0 x10 (List.map aZ w3009)) := by kernel_rfl
theorem ayE (κ : Tau) (x0 x1 : Str) (x2 x3 : Int) : am6 cA κ x0 x1 x2 x3 =
 cond (decide (0 ≤ (if (w6 ((List.length x0 : Int) + 1)) < x3 then (w6 ((List.length x0 : Int) + 1)) else x3)) && decide ((if (w6 ((List.length x0 : Int) + 1)) < x3 then (w6 ((List.length x0 : Int) + 1)) else x3) ≤ (if (w6 ((List.length x0 : Int) + 1)) < x3 then (w6 ((List.length x0 : Int) + 1)) else x3)) && decide ((if (w6 ((List.length x0 : Int) + 1)) < x3 then (w6 ((List.length x0 : Int) + 1)) else x3) * 16 ≤ 281474976710656)) (
 ajY lab κ x0 x1 x2 ((w6 ((if (w6 ((List.length x0 : Int) + 1)) < x3 then (w6 ((List.length x0 : Int) + 1)) else x3) - 1))) 0 ((List.replicate (Int.toNat (if (w6 ((List.length x0 : Int) + 1)) < x3 then (w6 ((List.length x0 : Int) + 1)) else x3)) [D.str []]))) none := by kernel_rfl
theorem aeU (x0 : Str) (x10 : Int) (w3009 : List Str) : Le (Option.map cU (nD x0 x10 w3009)) (aj6 lab (kF 149) x0 x10 (List.map aZ w3009)) := by
 refine bR (axk _ x0 x10 w3009) ?_
 unfold nD
 refine lGe ?_
 refine lGe ?_
 exact aN (by first | rfl | simp only [EN, cU] <;> rfl)
theorem zD : ∀ (fu : Nat) (x0 x1 : Str) (x2 x3 x10 : Int) (w3009 : List Str), Le (Option.map cU (jK fu x0 x1 x2 x3 x10 w3009)) (ajY lab (kF 149) x0 x1 x2 x3 x10 (List.map aZ w3009)) := by
 intro fu
 induction fu with
 | zero => intros; exact le_none
 | succ fu ih =>
  intro x0 x1 x2 x3 x10 w3009
  refine bR (awV _ x0 x1 x2 x3 x10 w3009) ?_
  unfold jK
  repeat' first | (with_reducible first | refine lF ?_ | refine lC ?_ ?_ | refine lQ eX bA ?_ fun _ _ => ?_ | refine lG ?_ ?_ | exact aec _ _ | exact aeU _ _ _ | exact ih _ _ _ _ _ _) | (simp only [EN]; done) | (simp only [EN]; exact ih _ _ _ _ _ _)
theorem zK (x0 x1 : Str) (x2 x3 : Int) : Le (Option.map cU (oB x0 x1 x2 x3)) (am6 lab (kF 149) x0 x1 x2 x3) := by
 refine bR (ayE _ x0 x1 x2 x3) ?_
 unfold oB
 repeat' first | (with_reducible first | refine lF ?_ | exact zD fuel _ _ _ _ _ _) | (simp only [EN]; exact zD fuel _ _ _ _ _ _)
theorem aix (p0 p1 : Str) (p2 p3 : Int) : Le (Option.map cU (vV p0 p1 p2 p3)) (aY SE 149 [dSq p0, dSq p1, dIq p2, dIq p3] [] []) := by
 refine bD (aA6 _ p0 p1 p2 p3) ?_
 unfold vV
 refine lC ?_ ?_
 ·exact aN rfl
 ·refine lC ?_ ?_
  ·exact le_none
  ·refine lC ?_ ?_
   ·refine lQ eX bA (aln _ _) fun r0 _ => ?_
    exact zK p0 p1 p2 (w6 (r0 + 1))
   ·exact zK p0 p1 p2 p3
theorem aBN (κ : Tau) (p0 p1 : Str) : bdy κ 147 [dSq p0, dSq p1] [] [] =
 κ.t 149 cU [dSq p0, dSq p1, dIq 0, dIq (-1)] [] [] fun r0 =>
 (some (cU r0)) := by kernel_rfl
theorem alA (p0 p1 : Str) : Le (Option.map cU (v3 p0 p1)) (aY SE 147 [dSq p0, dSq p1] [] []) := by
 refine bD (aBN _ p0 p1) ?_
 unfold v3
 refine lQ eX vY (aix _ _ _ _) fun r0 _ => ?_
 exact aN rfl
theorem aBV (κ : Tau) (p0 : Str) : bdy κ 143 [dSq p0] [] [] =
 κ.t 147 cU [dSq p0, dSq ([47] : Str)] [] [] fun r0 =>
 (some (cU r0)) := by kernel_rfl
theorem amm (p0 : Str) : Le (Option.map cU (xM p0)) (aY SE 143 [dSq p0] [] []) := by
 refine bD (aBV _ p0) ?_
 unfold xM
 refine lQ eX vY (alA _ _) fun r0 _ => ?_
 exact aN rfl
noncomputable def aeC (L : cD) (κ : Tau) (a0 : List (List D)) (a1 : Bool) (a2 : Int) (a3 : Str) (a4 : List (List D)) (a5 a6 : Int) (a7 : Str) (a8 : Nat) : Res := rl L κ 136 0 [1, 0, 1, 1, 1, 1, 0, 1, 0, 0, 1, 1, 0, 0, 1, 1, 0] (bQ [(3, .d (.sl [.str] a0)), (4, dBq a1), (5, dIq a2), (6, dSq a3), (15, .d (.sl [.str] a4)), (16, dIq a5), (17, dIq a6), (23, .it 4000)] [] [] [(4000, (a7, a8))] [])
noncomputable def ajI (L : cD) (κ : Tau) (a0 : List (List D)) (a1 : Bool) (a2 : List (List D)) (a3 a4 : Int) : Res := rl L κ 136 0 [1, 0, 1, 1, 1, 1, 0, 1, 0] (bQ [(3, .d (.sl [.str] a0)), (4, dBq a1), (15, .d (.sl [.str] a2)), (16, dIq a3), (17, dIq a4)] [] [] [] [])
theorem aBy (κ : Tau) (p0 : Str) : bdy κ 136 [dSq p0] [] [] =
 κ.t 139 packet_is_out [dSq p0] [] [] fun r0 =>
 cond (!r0) (
 (rB false)) (
 κ.t 143 cU [dSq p0] [] [] fun r1 =>
 ajI lab κ (List.map aZ r1) true (List.map aZ r1) (lM aZ r1 : Int) 0) := by kernel_rfl
theorem ayp (κ : Tau) (x3 : List Str) (x4 : Bool) (x5 : Int) (x6 : Str) (x15 : List Str) (x16 x17 : Int) (s4000 : Str) (i4000 : Nat) : aeC cA κ (List.map aZ x3) x4 x5 x6 (List.map aZ x15) x16 x17 s4000 i4000 =
 cond (decide (i4000 < List.length s4000)) (
 cond (((dec s4000 i4000).1 : Int) == 43) (
  cond (!((List.length x6 : Int) == 1)) (
  (rB false)) (
  cond (((dec s4000 i4000).1 : Int) == 35) (
  cond (!((List.length x6 : Int) == 1)) (
   (rB false)) (
  cond (decide (x5 < (w6 ((lM aZ x3 : Int) - 1)))) (
   (rB false)) (
  aeC lab κ (List.map aZ x3) x4 x5 x6 (List.map aZ x15) x16 x17 s4000 (i4000 + (dec s4000 i4000).2)))) (
  aeC lab κ (List.map aZ x3) x4 x5 x6 (List.map aZ x15) x16 x17 s4000 (i4000 + (dec s4000 i4000).2)))) (
 cond (((dec s4000 i4000).1 : Int) == 35) (
  cond (!((List.length x6 : Int) == 1)) (
  (rB false)) (
  cond (decide (x5 < (w6 ((lM aZ x3 : Int) - 1)))) (
  (rB false)) (
  aeC lab κ (List.map aZ x3) x4 x5 x6 (List.map aZ x15) x16 x17 s4000 (i4000 + (dec s4000 i4000).2)))) (
 aeC lab κ (List.map aZ x3) x4 x5 x6 (List.map aZ x15) x16 x17 s4000 (i4000 + (dec s4000 i4000).2)))) (
 ajI lab κ (List.map aZ x3) x4 (List.map aZ x15) x16 (w6 (x17 + 1))) := by kernel_rfl
theorem axP (κ : Tau) (x3 : List Str) (x4 : Bool) (x15 : List Str) (x16 x17 : Int) : ajI cA κ (List.map aZ x3) x4 (List.map aZ x15) x16 x17 =
 cond (decide (x17 < x16)) (
 cond (iB x17 (lM aZ x15 : Int)) (
  aeC lab κ (List.map aZ x3) x4 x17 ((bM (cE aZ x15 x17 0))) (List.map aZ x15) x16 x17 ((bM (cE aZ x15 x17 0))) 0) none) (
 (rB x4)) := by kernel_rfl
theorem aiz : ∀ (fu : Nat) (k6 : (List Str) → Bool → (List Str) → Int → Int → Option (Bool)) (hk6 : ∀ (x3 : List Str) (x4 : Bool) (x15 : List Str) (x16 x17 : Int), Le (Option.map packet_is_out (k6 x3 x4 x15 x16 x17)) (ajI lab (kF 136) (List.map aZ x3) x4 (List.map aZ x15) x16 x17)) (x3 : List Str) (x4 : Bool) (x5 : Int) (x6 : Str) (x15 : List Str) (x16 x17 : Int) (s4000 : Str) (i4000 : Nat), Le (Option.map packet_is_out (iF fu k6 x3 x4 x5 x6 x15 x16 x17 s4000 i4000)) (aeC lab (kF 136) (List.map aZ x3) x4 x5 x6 (List.map aZ x15) x16 x17 s4000 i4000) := by
 intro fu
 induction fu with
 | zero => intros; exact le_none
 | succ fu ih =>
  intro k6 hk6 x3 x4 x5 x6 x15 x16 x17 s4000 i4000
  refine bR (ayp _ x3 x4 x5 x6 x15 x16 x17 s4000 i4000) ?_
  unfold iF
  repeat' first | (with_reducible first | refine lC ?_ ?_ | refine lD ?_ ?_ ?_ | exact ih _ hk6 _ _ _ _ _ _ _ _ _ | exact hk6 _ _ _ _ _ | refine aN ?_) | rfl | (simp only [EN]; done) | (simp only [EN, packet_is_out] <;> rfl)
theorem ajh : ∀ (fu : Nat) (x3 : List Str) (x4 : Bool) (x15 : List Str) (x16 x17 : Int), Le (Option.map packet_is_out (nG fu x3 x4 x15 x16 x17)) (ajI lab (kF 136) (List.map aZ x3) x4 (List.map aZ x15) x16 x17) := by
 intro fu
 induction fu with
 | zero => intros; exact le_none
 | succ fu ih =>
  intro x3 x4 x15 x16 x17
  refine bR (axP _ x3 x4 x15 x16 x17) ?_
  unfold nG
  repeat' first | (with_reducible first | refine lC ?_ ?_ | refine lG ?_ ?_ | exact aiz fuel _ (ih) _ _ _ _ _ _ _ _ _ | refine aN ?_) | rfl | (simp only [EN]; done) | (simp only [EN]; exact aiz fuel _ (ih) _ _ _ _ _ _ _ _ _) | (simp only [EN, packet_is_out] <;> rfl)
theorem afm (p0 : Str) : Le (Option.map packet_is_out (uI p0)) (aY SE 136 [dSq p0] [] []) := by
 refine bD (aBy _ p0) ?_
 unfold uI
 refine lQ eX packet_is_inj (ag3 _) fun r0 _ => ?_
 refine lC ?_ ?_
 ·exact aN rfl
 ·refine lQ eX vY (amm _) fun r1 _ => ?_
  (try simp only [EN]); exact ajh fuel r1 true r1 (List.length r1 : Int) 0
theorem aBF (κ : Tau) (p0 p1 : Str) : bdy κ 137 [dSq p0, dSq p1] [] [] =
 κ.t 144 packet_is_out [dSq p0, dSq p1] [] [] fun r0 =>
 (rB r0) := by kernel_rfl
theorem abp (p0 p1 : Str) : Le (Option.map packet_is_out (nU p0 p1)) (aY SE 137 [dSq p0, dSq p1] [] []) := by
 refine bD (aBF _ p0 p1) ?_
 unfold nU
 refine lQ eX packet_is_inj (yH _ _) fun r0 _ => ?_
 exact aN rfl
theorem aBW (κ : Tau) (p0 : Str) : bdy κ 135 [dSq p0] [] [] =
 κ.t 141 fB [dSq p0, dSq ([36, 115, 104, 97, 114, 101, 47] : Str)] [] [] fun r0 =>
 cond (!r0.2) (
 (some (bV (([], [], false))))) (
 κ.t 142 bV [dSq r0.1, dSq ([47] : Str)] [] [] fun r1 =>
 cond (!r1.2.2) (
 (some (bV (([], [], false))))) (
 κ.t 118 packet_is_out [dSq r1.1] [] [] fun r2 =>
 cond (!r2) (
 (some (bV (([], [], false))))) (
 κ.t 136 packet_is_out [dSq r1.2.1] [] [] fun r3 =>
 cond (!r3) (
 (some (bV (([], [], false))))) (
 κ.t 137 packet_is_out [dSq r1.2.1, dSq ([36, 115, 104, 97, 114, 101, 47] : Str)] [] [] fun r4 =>
 cond r4 (
 (some (bV (([], [], false))))) (
 (some (bV (r1.1, r1.2.1, true)))))))) := by kernel_rfl
theorem amf (p0 : Str) : Le (Option.map bV (xH p0)) (aY SE 135 [dSq p0] [] []) := by
 refine bD (aBW _ p0) ?_
 unfold xH
 repeat' first | (with_reducible first | refine lC ?_ ?_ | refine lQ eX wX ?_ fun _ _ => ?_ | refine lQ eX oD ?_ fun _ _ => ?_ | refine lQ eX packet_is_inj ?_ fun _ _ => ?_ | refine lQ eX packet_is_inj ?_ fun _ _ => ?_ | refine lQ eX packet_is_inj ?_ fun _ _ => ?_ | exact ahz _ _ | exact anK _ _ | exact aal _ | exact afm _ | exact abp _ _ | refine aN ?_) | rfl | (simp only [EN, bV] <;> rfl)
theorem aBA (κ : Tau) (p0 : Str) : bdy κ 121 [dSq p0] [] [] =
 κ.t 135 bV [dSq p0] [] [] fun r0 =>
 cond r0.2.2 (
 (some (.ret [dBq true, dBq true] [] []))) (
 κ.t 136 packet_is_out [dSq p0] [] [] fun r1 =>
 cond r1 (
 κ.t 137 packet_is_out [dSq p0, dSq ([36, 115, 104, 97, 114, 101, 47] : Str)] [] [] fun r2 =>
 (some (.ret [dBq (!r2), dBq false] [] []))) (
 (some (.ret [dBq false, dBq false] [] [])))) := by kernel_rfl
theorem aav (p0 : Str) : Le (Option.map nV (sP p0)) (aY SE 121 [dSq p0] [] []) := by
 refine bD (aBA _ p0) ?_
 unfold sP
 refine lQ eX oD (amf _) fun r0 _ => ?_
 refine lC ?_ ?_
 ·exact aN rfl
 ·refine lQ eX packet_is_inj (afm _) fun r1 _ => ?_
  refine lC ?_ ?_
  ·refine lQ eX packet_is_inj (abp _ _) fun r2 _ => ?_
   exact aN rfl
  ·exact aN rfl
noncomputable def amv (L : cD) (κ : Tau) (a0 : List (List D)) (a1 a2 : Int) : Res := rl L κ 92 0 [1, 1, 0, 1, 0] (bQ [(18, .d (.sl aG.ks a0)), (19, dIq a1), (20, dIq a2)] [] [] [] [])
theorem T92 (κ : Tau) (p0 : aA) : bdy κ 92 [aA.av p0] [] [] =
 κ.t 120 aH [dIq p0.ID, dIq (lM aG.enc p0.Subs : Int)] [] [] fun r0 =>
 cond (r0 != 0) (
 (rI r0)) (
 amv lab κ (List.map aG.enc p0.Subs) (lM aG.enc p0.Subs : Int) 0) := by kernel_rfl
theorem aAu (κ : Tau) (x18 : List aG) (x19 x20 : Int) : amv cA κ (List.map aG.enc x18) x19 x20 =
 cond (decide (x20 < x19)) (
 cond (iB x20 (lM aG.enc x18 : Int)) (
  κ.t 121 nV [dSq (bM (cE aG.enc x18 x20 0))] [] [] fun r1 =>
  cond (!r1.1) (
  (rI 13)) (
  κ.t 85 packet_is_out [dIq (aX (cE aG.enc x18 x20 1)), dIq 0, dIq 2] [] [] fun r2 =>
  cond (!r2) (
  (rI 14)) (
  cond (bX (cE aG.enc x18 x20 2)) (
  cond r1.2 (
   (rI 28)) (
  amv lab κ (List.map aG.enc x18) x19 (w6 (x20 + 1)))) (
  amv lab κ (List.map aG.enc x18) x19 (w6 (x20 + 1)))))) none) (
 (rI 0)) := by kernel_rfl
theorem agl : ∀ (fu : Nat) (x18 : List aG) (x19 x20 : Int), Le (Option.map aH (gR fu x18 x19 x20)) (amv lab (kF 92) (List.map aG.enc x18) x19 x20) := by
 intro fu
 induction fu with
 | zero => intros; exact le_none
 | succ fu ih =>
  intro x18 x19 x20
  refine bR (aAu _ x18 x19 x20) ?_
  unfold gR
  repeat' first | (with_reducible first | refine lC ?_ ?_ | refine lQ eX acX ?_ fun _ _ => ?_ | refine lQ eX packet_is_inj ?_ fun _ _ => ?_ | refine lG ?_ ?_ | refine lD ?_ ?_ ?_ | exact aav _ | exact fW _ _ _ | exact ih _ _ _ | refine aN ?_) | rfl | (simp only [EN]; done) | (simp only [EN]; exact aav _) | (simp only [EN]; exact fW _ _ _) | (simp only [EN, aH] <;> rfl)
theorem aik (p0 : aA) : Le (Option.map aH (rY p0)) (aY SE 92 [aA.av p0] [] []) := by
 refine bD (T92 _ p0) ?_
 unfold rY
 refine lQ eX bA (by (try simp only [EN]); exact zF p0.ID (List.length p0.Subs : Int)) fun r0 _ => ?_
 refine lC ?_ ?_
 ·exact aN rfl
 ·(try simp only [EN]); exact agl fuel p0.Subs (List.length p0.Subs : Int) 0
noncomputable def apC (L : cD) (κ : Tau) (a0 : List (List D)) (a1 a2 : Int) : Res := rl L κ 93 0 [1, 1, 0, 1, 0] (bQ [(16, .d (.sl [.int .i64] a0)), (17, dIq a1), (18, dIq a2)] [] [] [] [])
theorem T93 (κ : Tau) (p0 : aA) : bdy κ 93 [aA.av p0] [] [] =
 κ.t 120 aH [dIq p0.ID, dIq (lM eI p0.Codes : Int)] [] [] fun r0 =>
 cond (r0 != 0) (
 (rI r0)) (
 apC lab κ (List.map eI p0.Codes) (lM eI p0.Codes : Int) 0) := by kernel_rfl
theorem azm (κ : Tau) (x16 : List Int) (x17 x18 : Int) : apC cA κ (List.map eI x16) x17 x18 =
 cond (decide (x18 < x17)) (
 cond (iB x18 (lM eI x16 : Int)) (
  κ.t 89 packet_is_out [dIq (aX (cE eI x16 x18 0))] [] [] fun r1 =>
  cond (!r1) (
  (rI 1)) (
  apC lab κ (List.map eI x16) x17 (w6 (x18 + 1)))) none) (
 (rI 0)) := by kernel_rfl
theorem ajD : ∀ (fu : Nat) (x16 : List Int) (x17 x18 : Int), Le (Option.map aH (lE fu x16 x17 x18)) (apC lab (kF 93) (List.map eI x16) x17 x18) := by
 intro fu
 induction fu with
 | zero => intros; exact le_none
 | succ fu ih =>
  intro x16 x17 x18
  refine bR (azm _ x16 x17 x18) ?_
  unfold lE
  repeat' first | (with_reducible first | refine lC ?_ ?_ | refine lQ eX packet_is_inj ?_ fun _ _ => ?_ | refine lG ?_ ?_ | exact ag8 _ | exact ih _ _ _ | refine aN ?_) | rfl | (simp only [EN]; done) | (simp only [EN]; exact ag8 _) | (simp only [EN, aH] <;> rfl)
theorem am3 (p0 : aA) : Le (Option.map aH (uJ p0)) (aY SE 93 [aA.av p0] [] []) := by
 refine bD (T93 _ p0) ?_
 unfold uJ
 refine lQ eX bA (by (try simp only [EN]); exact zF p0.ID (List.length p0.Codes : Int)) fun r0 _ => ?_
 refine lC ?_ ?_
 ·exact aN rfl
 ·(try simp only [EN]); exact ajD fuel p0.Codes (List.length p0.Codes : Int) 0
noncomputable def apH (L : cD) (κ : Tau) (a0 : List (List D)) (a1 a2 : Int) : Res := rl L κ 94 0 [1, 1, 0, 1, 0] (bQ [(18, .d (.sl [.str] a0)), (19, dIq a1), (20, dIq a2)] [] [] [] [])
theorem T94 (κ : Tau) (p0 : aA) : bdy κ 94 [aA.av p0] [] [] =
 κ.t 120 aH [dIq p0.ID, dIq (lM aZ p0.Filters : Int)] [] [] fun r0 =>
 cond (r0 != 0) (
 (rI r0)) (
 apH lab κ (List.map aZ p0.Filters) (lM aZ p0.Filters : Int) 0) := by kernel_rfl
theorem azJ (κ : Tau) (x18 : List Str) (x19 x20 : Int) : apH cA κ (List.map aZ x18) x19 x20 =
 cond (decide (x20 < x19)) (
 cond (iB x20 (lM aZ x18 : Int)) (
  κ.t 121 nV [dSq (bM (cE aZ x18 x20 0))] [] [] fun r1 =>
  cond (!r1.1) (
  (rI 13)) (
  apH lab κ (List.map aZ x18) x19 (w6 (x20 + 1)))) none) (
 (rI 0)) := by kernel_rfl
theorem adG : ∀ (fu : Nat) (x18 : List Str) (x19 x20 : Int), Le (Option.map aH (hI fu x18 x19 x20)) (apH lab (kF 94) (List.map aZ x18) x19 x20) := by
 intro fu
 induction fu with
 | zero => intros; exact le_none
 | succ fu ih =>
  intro x18 x19 x20
  refine bR (azJ _ x18 x19 x20) ?_
  unfold hI
  repeat' first | (with_reducible first | refine lC ?_ ?_ | refine lQ eX acX ?_ fun _ _ => ?_ | refine lG ?_ ?_ | exact aav _ | exact ih _ _ _ | refine aN ?_) | rfl | (simp only [EN]; done) | (simp only [EN]; exact aav _) | (simp only [EN, aH] <;> rfl)
theorem agu (p0 : aA) : Le (Option.map aH (pF p0)) (aY SE 94 [aA.av p0] [] []) := by
 refine bD (T94 _ p0) ?_
 unfold pF
 repeat' first | (with_reducible first | refine lC ?_ ?_ | refine lQ eX bA ?_ fun _ _ => ?_ | exact zF _ _ | exact adG fuel _ _ _ | refine aN ?_) | rfl | (simp only [EN]; exact zF _ _) | (simp only [EN]; exact adG fuel _ _ _) | (simp only [EN, aH] <;> rfl)
theorem T59 (κ : Tau) (p0 : aA) : bdy κ 59 [aA.av p0] [] [] =
 κ.t 85 packet_is_out [dIq p0.Kind, dIq 1, dIq 14] [] [] fun r0 =>
 cond (!r0) (
 (rI 10)) (
 κ.t 87 cH [aA.av p0] [] [] fun r1 =>
 κ.t 86 packet_is_out [aA.av p0, aA.av r1] [] [] fun r2 =>
 cond (!r2) (
 (rI 28)) (
 cond (p0.Kind == 1) (
 κ.t 88 aH [aA.av p0] [] [] fun r3 =>
 (rI r3)) (
 cond (p0.Kind == 2) (
 κ.t 89 packet_is_out [dIq p0.Code] [] [] fun r4 =>
 cond (!r4) (
  (rI 1)) (
 cond p0.Present (
  cond (p0.Code != 0) (
  (rI 28)) (
  (rI 0))) (
 (rI 0)))) (
 cond (p0.Kind == 14) (
 κ.t 89 packet_is_out [dIq p0.Code] [] [] fun r5 =>
 cond (!r5) (
  (rI 1)) (
 cond p0.Present (
  cond (p0.Code != 0) (
  (rI 28)) (
  (rI 0))) (
 (rI 0)))) (
 cond (p0.Kind == 3) (
 κ.t 90 aH [aA.av p0] [] [] fun r6 =>
 (rI r6)) (
 cond (p0.Kind == 4) (
 κ.t 91 aH [dIq p0.ID] [] [] fun r7 =>
 (rI r7)) (
 cond (p0.Kind == 5) (
 κ.t 91 aH [dIq p0.ID] [] [] fun r8 =>
 (rI r8)) (
 cond (p0.Kind == 6) (
 κ.t 91 aH [dIq p0.ID] [] [] fun r9 =>
 (rI r9)) (
 cond (p0.Kind == 7) (
 κ.t 91 aH [dIq p0.ID] [] [] fun r10 =>
 (rI r10)) (
 cond (p0.Kind == 8) (
 κ.t 92 aH [aA.av p0] [] [] fun r11 =>
 (rI r11)) (
 cond (p0.Kind == 9) (
 κ.t 93 aH [aA.av p0] [] [] fun r12 =>
 (rI r12)) (
 cond (p0.Kind == 11) (
 κ.t 93 aH [aA.av p0] [] [] fun r13 =>
 (rI r13)) (
 cond (p0.Kind == 10) (
 κ.t 94 aH [aA.av p0] [] [] fun r14 =>
 (rI r14)) (
 (rI 0))))))))))))))) := by kernel_rfl
theorem ae7 (p0 : aA) : Le (Option.map aH (kM p0)) (aY SE 59 [aA.av p0] [] []) := by
 refine bD (T59 _ p0) ?_
 unfold kM
 repeat' first | (with_reducible first | refine lC ?_ ?_ | refine lQ eX packet_is_inj ?_ fun _ _ => ?_ | refine lQ eX aff ?_ fun _ _ => ?_ | refine lQ eX packet_is_inj ?_ fun _ _ => ?_ | refine lQ eX bA ?_ fun _ _ => ?_ | refine lQ eX packet_is_inj ?_ fun _ _ => ?_ | refine lQ eX bA ?_ fun _ _ => ?_ | refine lQ eX bA ?_ fun _ _ => ?_ | refine lQ eX bA ?_ fun _ _ => ?_ | refine lQ eX bA ?_ fun _ _ => ?_ | refine lQ eX bA ?_ fun _ _ => ?_ | exact fW _ _ _ | exact anE _ | exact an1 _ _ | exact akr _ | exact ag8 _ | exact akw _ | exact afy _ | exact aik _ | exact am3 _ | exact agu _ | refine aN ?_) | rfl | (simp only [EN, aH] <;> rfl)
theorem T34 (κ : Tau) (p0 : List Int) (p1 : Int) : bdy κ 34 [.d (.sl [.int .u8] (List.map (aO .u8) p0)), dIq p1] [] [] =
 cond (decide (0 ≤ (lM (aO .u8) p0 : Int)) && decide ((lM (aO .u8) p0 : Int) ≤ (w6 ((lM (aO .u8) p0 : Int) + p1))) && decide ((w6 ((lM (aO .u8) p0 : Int) + p1)) * 1 ≤ 281474976710656)) (
 (some (.ret [.row 0] [] [⟨[.int .u8], 5, 1, (List.take (List.length (List.replicate (Int.toNat (lM (aO .u8) p0 : Int)) [D.int .u8 0])) (List.map (aO .u8) p0) ++ List.drop (min (lM (aO .u8) p0) (List.length (List.replicate (Int.toNat (lM (aO .u8) p0 : Int)) [D.int .u8 0]))) (List.replicate (Int.toNat (lM (aO .u8) p0 : Int)) [D.int .u8 0]))⟩]))) none := by kernel_rfl
theorem acP (p0 : List Int) (p1 : Int) : Le (Option.map aL (vT p0 p1)) (aY SE 34 [.d (.sl [.int .u8] (List.map (aO .u8) p0)), dIq p1] [] []) := by
 refine bD (T34 _ p0 p1) ?_
 unfold vT
 refine lGe ?_
 exact aN (by first | rfl | simp only [EN, aL] <;> rfl)
theorem T65 (κ : Tau) (p0 : Int) : bdy κ 65 [dIq p0] [] [] =
 (some (.ret [.d (.int .u64 (cB .xor .u64 (shl .u64 (IntKind.wrap .u64 p0) 1) (IntKind.wrap .u64 (shr .i64 p0 63))))] [] [])) := by kernel_rfl
theorem arc (p0 : Int) : Le (Option.map n5 (acv p0)) (aY SE 65 [dIq p0] [] []) := by
 refine bD (T65 _ p0) ?_
 unfold acv
 exact aN rfl
noncomputable def apB (L : cD) (κ : Tau) (a0 : Int) (a1 : List (List D)) : Res := rl L κ 33 0 [1, 1, 0, 0] (bQ [(0, .row 3000), (5, .d (.int .u64 a0))] [] [] [] [(3000, ⟨[.int .u8], 5, 1, a1⟩)])
theorem T33 (κ : Tau) (p0 : List Int) (p1 : Int) : bdy κ 33 [.row 2000000000, dIq p1] [] [⟨[.int .u8], 5, 1, (List.map (aO .u8) p0)⟩] =
 κ.t 65 n5 [dIq p1] [] [] fun r0 =>
 apB lab κ r0 (List.map (aO .u8) p0) := by kernel_rfl
theorem az5 (κ : Tau) (x5 : Int) (w3000 : List Int) : apB cA κ x5 (List.map (aO .u8) w3000) =
 cond (decide (x5 > 127)) (
 cond (decide ((lM (aO .u8) w3000 + lM (aO .u8) [(cB .or .u8 (IntKind.wrap .u8 (cB .and .u64 x5 127)) 128)]) * 1 ≤ 140737488355328)) (
  apB lab κ (shr .u64 x5 7) (((List.map (aO .u8) w3000) ++ (List.map (aO .u8) [(cB .or .u8 (IntKind.wrap .u8 (cB .and .u64 x5 127)) 128)])))) none) (
 cond (decide ((lM (aO .u8) w3000 + lM (aO .u8) [(IntKind.wrap .u8 x5)]) * 1 ≤ 140737488355328)) (
 (some (.ret [.row 0] [] [⟨[.int .u8], 5, 1, ((List.map (aO .u8) w3000) ++ (List.map (aO .u8) [(IntKind.wrap .u8 x5)]))⟩]))) none) := by kernel_rfl
theorem anO : ∀ (fu : Nat) (x5 : Int) (w3000 : List Int), Le (Option.map aL (rG fu x5 w3000)) (apB lab (kF 33) x5 (List.map (aO .u8) w3000)) := by
 intro fu
 induction fu with
 | zero => intros; exact le_none
 | succ fu ih =>
  intro x5 w3000
  refine bR (az5 _ x5 w3000) ?_
  unfold rG
  repeat' first | (with_reducible first | refine lC ?_ ?_ | refine lG ?_ ?_ | exact ih _ _ | refine aN ?_) | rfl | (simp only [EN]; done) | (simp only [EN]; exact ih _ _) | (simp only [EN, aL] <;> rfl)
theorem zN (p0 : List Int) (p1 : Int) : Le (Option.map aL (tR p0 p1)) (aY SE 33 [.row 2000000000, dIq p1] [] [⟨[.int .u8], 5, 1, (List.map (aO .u8) p0)⟩]) := by
 refine bD (T33 _ p0 p1) ?_
 unfold tR
 refine lQ eX ah7 (arc _) fun r0 _ => ?_
 exact anO fuel r0 p0
theorem T20 (κ : Tau) (p0 : List Int) (p1 : Int) : bdy κ 20 [.d (.sl [.int .u8] (List.map (aO .u8) p0)), dIq p1] [] [] =
 κ.t 34 aL [.d (.sl [.int .u8] (List.map (aO .u8) p0)), dIq 10] [] [] fun r0 =>
 κ.t 33 aL [.row 2000000000, dIq p1] [] [⟨[.int .u8], 5, 1, (List.map (aO .u8) r0)⟩] fun r1 =>
 (some (aL r1)) := by kernel_rfl
theorem eR (p0 : List Int) (p1 : Int) : Le (Option.map aL (cG p0 p1)) (aY SE 20 [.d (.sl [.int .u8] (List.map (aO .u8) p0)), dIq p1] [] []) := by
 refine bD (T20 _ p0 p1) ?_
 unfold cG
 refine lQ eX bC (acP _ _) fun r0 _ => ?_
 refine lQ eX bC (zN _ _) fun r1 _ => ?_
 exact aN rfl
theorem T95 (κ : Tau) (p0 : List Int) (p1 : Str) : bdy κ 95 [.d (.sl [.int .u8] (List.map (aO .u8) p0)), dSq p1] [] [] =
 κ.t 34 aL [.d (.sl [.int .u8] (List.map (aO .u8) p0)), dIq (w6 (10 + (List.length p1 : Int)))] [] [] fun r0 =>
 κ.t 33 aL [.row 2000000000, dIq (List.length p1 : Int)] [] [⟨[.int .u8], 5, 1, (List.map (aO .u8) r0)⟩] fun r1 =>
 cond (decide ((lM (aO .u8) r1 + List.length (fQ p1)) * 1 ≤ 140737488355328)) (
 (some (.ret [.row 0] [] [⟨[.int .u8], 5, 1, ((List.map (aO .u8) r1) ++ (fQ p1))⟩]))) none := by kernel_rfl
theorem tG (p0 : List Int) (p1 : Str) : Le (Option.map aL (jQ p0 p1)) (aY SE 95 [.d (.sl [.int .u8] (List.map (aO .u8) p0)), dSq p1] [] []) := by
 refine bD (T95 _ p0 p1) ?_
 unfold jQ
 refine lQ eX bC (acP _ _) fun r0 _ => ?_
 refine lQ eX bC (zN _ _) fun r1 _ => ?_
 refine lGe ?_
 exact aN (by first | rfl | simp only [EN, aL] <;> rfl)
noncomputable def ata (L : cD) (κ : Tau) (a0 : List (List D)) (a1 a2 a3 : Int) (a4 : Bool) : Res := rl L κ 61 0 [1, 1, 0, 1, 0, 0, 1, 0, 0, 0] (bQ [(0, .d (.sl [.bool] a0)), (3, dIq a1), (4, dIq a2), (10, dIq a3), (11, dBq a4)] [] [] [] [])
noncomputable def aj8 (L : cD) (κ : Tau) (a0 : List (List D)) (a1 a2 : Int) : Res := rl L κ 61 0 [1, 1, 0, 1, 0] (bQ [(0, .d (.sl [.bool] a0)), (3, dIq a1), (4, dIq a2)] [] [] [] [])
theorem T61 (κ : Tau) (p0 : List Bool) : bdy κ 61 [.d (.sl [.bool] (List.map gQ p0))] [] [] =
 aj8 lab κ (List.map gQ p0) 0 0 := by kernel_rfl
theorem azr (κ : Tau) (x0 : List Bool) (x3 x4 x10 : Int) (x11 : Bool) : ata cA κ (List.map gQ x0) x3 x4 x10 x11 =
 cond (iB x4 (lM gQ x0 : Int)) (
 cond (bX (cE gQ x0 x4 0)) (
  cond (decide (0 ≤ x4)) (
  aj8 lab κ (List.map gQ x0) (cB .or .i64 x3 (shl .i64 1 x4)) (w6 (x4 + 1))) none) (
 aj8 lab κ (List.map gQ x0) x3 (w6 (x4 + 1)))) none := by kernel_rfl
theorem azI (κ : Tau) (x0 : List Bool) (x3 x4 : Int) : aj8 cA κ (List.map gQ x0) x3 x4 =
 cond (decide (x4 < (lM gQ x0 : Int))) (
 cond (decide (x4 < 32)) (
  ata lab κ (List.map gQ x0) x3 x4 x4 (decide (x4 < 32))) (
 (rI x3))) (
 (rI x3)) := by kernel_rfl
theorem alK (k3 : (List Bool) → Int → Int → Option (Int)) (hk3 : ∀ (x0 : List Bool) (x3 x4 : Int), Le (Option.map aH (k3 x0 x3 x4)) (aj8 lab (kF 61) (List.map gQ x0) x3 x4)) (x0 : List Bool) (x3 x4 x10 : Int) (x11 : Bool) : Le (Option.map aH (acK k3 x0 x3 x4 x10 x11)) (ata lab (kF 61) (List.map gQ x0) x3 x4 x10 x11) := by
 refine bR (azr _ x0 x3 x4 x10 x11) ?_
 unfold acK
 repeat' first | (with_reducible first | refine lF ?_ | refine lG ?_ ?_ | refine lD ?_ ?_ ?_ | exact hk3 _ _ _) | (simp only [EN]; done)
theorem alu : ∀ (fu : Nat) (x0 : List Bool) (x3 x4 : Int), Le (Option.map aH (aaf fu x0 x3 x4)) (aj8 lab (kF 61) (List.map gQ x0) x3 x4) := by
 intro fu
 induction fu with
 | zero => intros; exact le_none
 | succ fu ih =>
  intro x0 x3 x4
  refine bR (azI _ x0 x3 x4) ?_
  unfold aaf
  refine lDe ?_ ?_
  ·refine lC ?_ ?_
   ·exact alK _ (ih) x0 x3 x4 x4 (decide (x4 < 32))
   ·exact aN rfl
  ·exact aN rfl
theorem aah (p0 : List Bool) : Le (Option.map aH (oW p0)) (aY SE 61 [.d (.sl [.bool] (List.map gQ p0))] [] []) := by
 refine bD (T61 _ p0) ?_
 unfold oW
 exact alu fuel p0 0 0
noncomputable def apG (L : cD) (κ : Tau) (a0 : List (List D)) (a1 a2 : Int) (a3 : List (List D)) : Res := rl L κ 62 0 [1, 1, 1, 1, 1, 1, 1, 0, 1, 0] (bQ [(5, .row 3005), (45, .d (.sl aE.ks a0)), (46, dIq a1), (47, dIq a2)] [] [] [] [(3005, ⟨[.int .u8], 5, 1, a3⟩)])
theorem T62 (κ : Tau) (p0 : List Int) (p1 : aF) : bdy κ 62 [.d (.sl [.int .u8] (List.map (aO .u8) p0)), aF.av p1] [] [] =
 κ.t 95 aL [.d (.sl [.int .u8] (List.map (aO .u8) p0)), dSq p1.Topic] [] [] fun r0 =>
 κ.t 95 aL [.d (.sl [.int .u8] (List.map (aO .u8) r0)), dSq p1.Payload] [] [] fun r1 =>
 κ.t 20 aL [.d (.sl [.int .u8] (List.map (aO .u8) r1)), dIq p1.Level] [] [] fun r2 =>
 κ.t 61 aH [.d (.sl [.bool] (List.map gQ [p1.Retain]))] [] [] fun r3 =>
 κ.t 20 aL [.d (.sl [.int .u8] (List.map (aO .u8) r2)), dIq r3] [] [] fun r4 =>
 κ.t 20 aL [.d (.sl [.int .u8] (List.map (aO .u8) r4)), dIq p1.Priority] [] [] fun r5 =>
 κ.t 20 aL [.d (.sl [.int .u8] (List.map (aO .u8) r5)), dIq p1.Expires] [] [] fun r6 =>
 κ.t 95 aL [.d (.sl [.int .u8] (List.map (aO .u8) r6)), dSq p1.From] [] [] fun r7 =>
 κ.t 20 aL [.d (.sl [.int .u8] (List.map (aO .u8) r7)), dIq p1.Seq] [] [] fun r8 =>
 κ.t 20 aL [.d (.sl [.int .u8] (List.map (aO .u8) r8)), dIq (lM aE.enc p1.Props : Int)] [] [] fun r9 =>
 apG lab κ (List.map aE.enc p1.Props) (lM aE.enc p1.Props : Int) 0 (List.map (aO .u8) r9) := by kernel_rfl
theorem azs (κ : Tau) (x45 : List aE) (x46 x47 : Int) (w3005 : List Int) : apG cA κ (List.map aE.enc x45) x46 x47 (List.map (aO .u8) w3005) =
 cond (decide (x47 < x46)) (
 cond (iB x47 (lM aE.enc x45 : Int)) (
  κ.t 95 aL [.d (.sl [.int .u8] (List.map (aO .u8) w3005)), dSq (bM (cE aE.enc x45 x47 0))] [] [] fun r10 =>
  κ.t 95 aL [.d (.sl [.int .u8] (List.map (aO .u8) r10)), dSq (bM (cE aE.enc x45 x47 1))] [] [] fun r11 =>
  apG lab κ (List.map aE.enc x45) x46 (w6 (x47 + 1)) (List.map (aO .u8) r11)) none) (
 (some (aL w3005))) := by kernel_rfl
theorem acW : ∀ (fu : Nat) (x45 : List aE) (x46 x47 : Int) (w3005 : List Int), Le (Option.map aL (mK fu x45 x46 x47 w3005)) (apG lab (kF 62) (List.map aE.enc x45) x46 x47 (List.map (aO .u8) w3005)) := by
 intro fu
 induction fu with
 | zero => intros; exact le_none
 | succ fu ih =>
  intro x45 x46 x47 w3005
  refine bR (azs _ x45 x46 x47 w3005) ?_
  unfold mK
  repeat' first | (with_reducible first | refine lC ?_ ?_ | refine lQ eX bC ?_ fun _ _ => ?_ | refine lG ?_ ?_ | exact tG _ _ | exact ih _ _ _ _ | refine aN ?_) | rfl | (simp only [EN]; done) | (simp only [EN]; exact tG _ _) | (simp only [EN, aL] <;> rfl)
theorem agD (p0 : List Int) (p1 : aF) : Le (Option.map aL (tK p0 p1)) (aY SE 62 [.d (.sl [.int .u8] (List.map (aO .u8) p0)), aF.av p1] [] []) := by
 refine bD (T62 _ p0 p1) ?_
 unfold tK
 repeat' first | (with_reducible first | refine lQ eX bC ?_ fun _ _ => ?_ | refine lQ eX bC ?_ fun _ _ => ?_ | refine lQ eX bA ?_ fun _ _ => ?_ | exact tG _ _ | exact eR _ _ | exact aah _ | exact acW fuel _ _ _ _) | (simp only [EN]; exact eR _ _) | (simp only [EN]; exact acW fuel _ _ _ _)
noncomputable def apd (L : cD) (κ : Tau) (a0 a1 : Int) (a2 : List D) (a3 a4 : List (List D)) : Res := rl L κ 60 0 [1, 1, 1, 0, 1, 0] (bQ [(3, .ptr 1000000000 0), (5, .row 3005), (30, .row 3030), (31, dIq a0), (32, dIq a1)] [⟨53, (List.map AV.d a2)⟩] [] [] [(3005, ⟨[.int .u8], 5, 1, a3⟩), (3030, ⟨[.int .i64], 3, 8, a4⟩)])
theorem T60 (κ : Tau) (p0 : List Int) (p1 : aA) : bdy κ 60 [.d (.sl [.int .u8] (List.map (aO .u8) p0)), aA.av p1] [] [] =
 κ.t 95 aL [.d (.sl [.int .u8] (List.map (aO .u8) p0)), dSq p1.Client] [] [] fun r0 =>
 κ.t 95 aL [.d (.sl [.int .u8] (List.map (aO .u8) r0)), dSq p1.User] [] [] fun r1 =>
 κ.t 61 aH [.d (.sl [.bool] (List.map gQ [p1.Clean, p1.Will.Set]))] [] [] fun r2 =>
 κ.t 20 aL [.d (.sl [.int .u8] (List.map (aO .u8) r1)), dIq r2] [] [] fun r3 =>
 apd lab κ (lM eI [p1.Keep, p1.Expiry, p1.Window] : Int) 0 (aA.enc p1) (List.map (aO .u8) r3) (List.map eI [p1.Keep, p1.Expiry, p1.Window]) := by kernel_rfl
theorem azF (κ : Tau) (x31 x32 : Int) (b0 : aA) (w3005 w3030 : List Int) : apd cA κ x31 x32 (aA.enc b0) (List.map (aO .u8) w3005) (List.map eI w3030) =
 cond (decide (x32 < x31)) (
 cond (iB x32 (lM eI w3030 : Int)) (
  κ.t 20 aL [.d (.sl [.int .u8] (List.map (aO .u8) w3005)), dIq (aX (cE eI w3030 x32 0))] [] [] fun r4 =>
  apd lab κ x31 (w6 (x32 + 1)) (aA.enc b0) (List.map (aO .u8) r4) (List.map eI w3030)) none) (
 cond b0.Will.Set (
 κ.t 20 aL [.d (.sl [.int .u8] (List.map (aO .u8) w3005)), dIq b0.Will.Delay] [] [] fun r5 =>
 κ.t 62 aL [.d (.sl [.int .u8] (List.map (aO .u8) r5)), aF.av b0.Will.Message] [] [] fun r6 =>
 (some (aL r6))) (
 (some (aL w3005)))) := by kernel_rfl
theorem ack : ∀ (fu : Nat) (x31 x32 : Int) (b0 : aA) (w3005 w3030 : List Int), Le (Option.map aL (m0 fu x31 x32 b0 w3005 w3030)) (apd lab (kF 60) x31 x32 (aA.enc b0) (List.map (aO .u8) w3005) (List.map eI w3030)) := by
 intro fu
 induction fu with
 | zero => intros; exact le_none
 | succ fu ih =>
  intro x31 x32 b0 w3005 w3030
  refine bR (azF _ x31 x32 b0 w3005 w3030) ?_
  unfold m0
  repeat' first | (with_reducible first | refine lC ?_ ?_ | refine lQ eX bC ?_ fun _ _ => ?_ | refine lQ eX bC ?_ fun _ _ => ?_ | refine lG ?_ ?_ | exact eR _ _ | exact ih _ _ _ _ _ | exact agD _ _ | refine aN ?_) | rfl | (simp only [EN]; done) | (simp only [EN]; exact eR _ _) | (simp only [EN, aL] <;> rfl)
theorem amJ (p0 : List Int) (p1 : aA) : Le (Option.map aL (xE p0 p1)) (aY SE 60 [.d (.sl [.int .u8] (List.map (aO .u8) p0)), aA.av p1] [] []) := by
 refine bD (T60 _ p0 p1) ?_
 unfold xE
 repeat' first | (with_reducible first | refine lQ eX bC ?_ fun _ _ => ?_ | refine lQ eX bA ?_ fun _ _ => ?_ | refine lQ eX bC ?_ fun _ _ => ?_ | exact tG _ _ | exact aah _ | exact eR _ _ | exact ack fuel _ _ _ _ _) | (simp only [EN]; exact ack fuel _ _ _ _ _)
noncomputable def apf (L : cD) (κ : Tau) (a0 : List (List D)) (a1 a2 : Int) (a3 : List (List D)) : Res := rl L κ 63 0 [1, 1, 0, 1, 0] (bQ [(5, .row 3005), (12, .d (.sl aG.ks a0)), (13, dIq a1), (14, dIq a2)] [] [] [] [(3005, ⟨[.int .u8], 5, 1, a3⟩)])
theorem T63 (κ : Tau) (p0 : List Int) (p1 : List aG) : bdy κ 63 [.d (.sl [.int .u8] (List.map (aO .u8) p0)), .d (.sl aG.ks (List.map aG.enc p1))] [] [] =
 κ.t 20 aL [.d (.sl [.int .u8] (List.map (aO .u8) p0)), dIq (lM aG.enc p1 : Int)] [] [] fun r0 =>
 apf lab κ (List.map aG.enc p1) (lM aG.enc p1 : Int) 0 (List.map (aO .u8) r0) := by kernel_rfl
theorem azj (κ : Tau) (x12 : List aG) (x13 x14 : Int) (w3005 : List Int) : apf cA κ (List.map aG.enc x12) x13 x14 (List.map (aO .u8) w3005) =
 cond (decide (x14 < x13)) (
 cond (iB x14 (lM aG.enc x12 : Int)) (
  κ.t 95 aL [.d (.sl [.int .u8] (List.map (aO .u8) w3005)), dSq (bM (cE aG.enc x12 x14 0))] [] [] fun r1 =>
  κ.t 20 aL [.d (.sl [.int .u8] (List.map (aO .u8) r1)), dIq (aX (cE aG.enc x12 x14 1))] [] [] fun r2 =>
  κ.t 61 aH [.d (.sl [.bool] [[D.bool (bX (cE aG.enc x12 x14 2))]])] [] [] fun r3 =>
  κ.t 20 aL [.d (.sl [.int .u8] (List.map (aO .u8) r2)), dIq r3] [] [] fun r4 =>
  apf lab κ (List.map aG.enc x12) x13 (w6 (x14 + 1)) (List.map (aO .u8) r4)) none) (
 (some (aL w3005))) := by kernel_rfl
theorem ad1 : ∀ (fu : Nat) (x12 : List aG) (x13 x14 : Int) (w3005 : List Int), Le (Option.map aL (iZ fu x12 x13 x14 w3005)) (apf lab (kF 63) (List.map aG.enc x12) x13 x14 (List.map (aO .u8) w3005)) := by
 intro fu
 induction fu with
 | zero => intros; exact le_none
 | succ fu ih =>
  intro x12 x13 x14 w3005
  refine bR (azj _ x12 x13 x14 w3005) ?_
  unfold iZ
  refine lC ?_ ?_
  ·refine lGe ?_
   refine lQ eX bC (by (try simp only [EN]); exact tG w3005 ((List.getD x12 (Int.toNat x14) default).Filter)) fun r1 _ => ?_
   refine lQ eX bC (by (try simp only [EN]); exact eR r1 ((List.getD x12 (Int.toNat x14) default).Level)) fun r2 _ => ?_
   refine lQ eX bA (by (try simp only [EN]); exact aah [(List.getD x12 (Int.toNat x14) default).NoLocal]) fun r3 _ => ?_
   refine lQ eX bC (eR _ _) fun r4 _ => ?_
   exact ih x12 x13 (w6 (x14 + 1)) r4
  ·exact aN rfl
theorem ag4 (p0 : List Int) (p1 : List aG) : Le (Option.map aL (pJ p0 p1)) (aY SE 63 [.d (.sl [.int .u8] (List.map (aO .u8) p0)), .d (.sl aG.ks (List.map aG.enc p1))] [] []) := by
 refine bD (T63 _ p0 p1) ?_
 unfold pJ
 repeat' first | (with_reducible first | refine lQ eX bC ?_ fun _ _ => ?_ | exact eR _ _ | exact ad1 fuel _ _ _ _) | (simp only [EN]; exact eR _ _) | (simp only [EN]; exact ad1 fuel _ _ _ _)
noncomputable def apg (L : cD) (κ : Tau) (a0 : List (List D)) (a1 a2 : Int) (a3 : List (List D)) : Res := rl L κ 64 0 [1, 1, 0, 1, 0] (bQ [(5, .row 3005), (13, .d (.sl [.str] a0)), (14, dIq a1), (15, dIq a2)] [] [] [] [(3005, ⟨[.int .u8], 5, 1, a3⟩)])
theorem T64 (κ : Tau) (p0 : List Int) (p1 : List Str) : bdy κ 64 [.d (.sl [.int .u8] (List.map (aO .u8) p0)), .d (.sl [.str] (List.map aZ p1))] [] [] =
 κ.t 34 aL [.d (.sl [.int .u8] (List.map (aO .u8) p0)), dIq 10] [] [] fun r0 =>
 κ.t 33 aL [.row 2000000000, dIq (lM aZ p1 : Int)] [] [⟨[.int .u8], 5, 1, (List.map (aO .u8) r0)⟩] fun r1 =>
 apg lab κ (List.map aZ p1) (lM aZ p1 : Int) 0 (List.map (aO .u8) r1) := by kernel_rfl
theorem azD (κ : Tau) (x13 : List Str) (x14 x15 : Int) (w3005 : List Int) : apg cA κ (List.map aZ x13) x14 x15 (List.map (aO .u8) w3005) =
 cond (decide (x15 < x14)) (
 cond (iB x15 (lM aZ x13 : Int)) (
  κ.t 33 aL [.row 2000000000, dIq (List.length (bM (cE aZ x13 x15 0)) : Int)] [] [⟨[.int .u8], 5, 1, (List.map (aO .u8) w3005)⟩] fun r2 =>
  cond (decide ((lM (aO .u8) r2 + List.length (fQ (bM (cE aZ x13 x15 0)))) * 1 ≤ 140737488355328)) (
  apg lab κ (List.map aZ x13) x14 (w6 (x15 + 1)) (((List.map (aO .u8) r2) ++ (fQ (bM (cE aZ x13 x15 0)))))) none) none) (
 (some (aL w3005))) := by kernel_rfl
theorem aip : ∀ (fu : Nat) (x13 : List Str) (x14 x15 : Int) (w3005 : List Int), Le (Option.map aL (lX fu x13 x14 x15 w3005)) (apg lab (kF 64) (List.map aZ x13) x14 x15 (List.map (aO .u8) w3005)) := by
 intro fu
 induction fu with
 | zero => intros; exact le_none
 | succ fu ih =>
  intro x13 x14 x15 w3005
  refine bR (azD _ x13 x14 x15 w3005) ?_
  unfold lX
  repeat' first | (with_reducible first | refine lC ?_ ?_ | refine lQ eX bC ?_ fun _ _ => ?_ | refine lG ?_ ?_ | exact zN _ _ | exact ih _ _ _ _ | refine aN ?_) | rfl | (simp only [EN]; done) | (simp only [EN]; exact zN _ _) | (simp only [EN]; exact ih _ _ _ _) | (simp only [EN, aL] <;> rfl)
theorem alS (p0 : List Int) (p1 : List Str) : Le (Option.map aL (wI p0 p1)) (aY SE 64 [.d (.sl [.int .u8] (List.map (aO .u8) p0)), .d (.sl [.str] (List.map aZ p1))] [] []) := by
 refine bD (T64 _ p0 p1) ?_
 unfold wI
 refine lQ eX bC (acP _ _) fun r0 _ => ?_
 refine lQ eX bC (by (try simp only [EN]); exact zN r0 (List.length p1 : Int)) fun r1 _ => ?_
 (try simp only [EN]); exact aip fuel p1 (List.length p1 : Int) 0 r1
noncomputable def ajW (L : cD) (κ : Tau) (a0 : List (List D)) (a1 a2 : Int) (a3 : List (List D)) : Res := rl L κ 32 0 [1, 1, 1, 0, 1, 0, 1, 1, 1, 1, 1, 1, 1, 1, 1, 1, 1, 0, 1, 1, 0] (bQ [(5, .row 3005), (79, .d (.sl [.int .i64] a0)), (80, dIq a1), (81, dIq a2)] [] [] [] [(3005, ⟨[.int .u8], 5, 1, a3⟩)])
theorem T32 (κ : Tau) (p0 : aA) : bdy κ 32 [aA.av p0] [] [] =
 κ.t 59 aH [aA.av p0] [] [] fun r0 =>
 cond (r0 != 0) (
 (some (bF ([], r0)))) (
 κ.t 20 aL [.d (.sl [.int .u8] (List.map (aO .u8) [])), dIq p0.Kind] [] [] fun r1 =>
 cond (p0.Kind == 1) (
 κ.t 60 aL [.d (.sl [.int .u8] (List.map (aO .u8) r1)), aA.av p0] [] [] fun r2 =>
 (some (bF (r2, 0)))) (
 cond (p0.Kind == 2) (
 κ.t 61 aH [.d (.sl [.bool] (List.map gQ [p0.Present]))] [] [] fun r3 =>
 κ.t 20 aL [.d (.sl [.int .u8] (List.map (aO .u8) r1)), dIq r3] [] [] fun r4 =>
 κ.t 20 aL [.d (.sl [.int .u8] (List.map (aO .u8) r4)), dIq p0.Code] [] [] fun r5 =>
 (some (bF (r5, 0)))) (
 cond (p0.Kind == 3) (
 κ.t 20 aL [.d (.sl [.int .u8] (List.map (aO .u8) r1)), dIq p0.ID] [] [] fun r6 =>
 κ.t 61 aH [.d (.sl [.bool] (List.map gQ [p0.Dup]))] [] [] fun r7 =>
 κ.t 20 aL [.d (.sl [.int .u8] (List.map (aO .u8) r6)), dIq r7] [] [] fun r8 =>
 κ.t 62 aL [.d (.sl [.int .u8] (List.map (aO .u8) r8)), aF.av p0.Message] [] [] fun r9 =>
 (some (bF (r9, 0)))) (
 cond (p0.Kind == 4) (
 κ.t 20 aL [.d (.sl [.int .u8] (List.map (aO .u8) r1)), dIq p0.ID] [] [] fun r10 =>
 (some (bF (r10, 0)))) (
 cond (p0.Kind == 5) (
 κ.t 20 aL [.d (.sl [.int .u8] (List.map (aO .u8) r1)), dIq p0.ID] [] [] fun r11 =>
 (some (bF (r11, 0)))) (
 cond (p0.Kind == 6) (
 κ.t 20 aL [.d (.sl [.int .u8] (List.map (aO .u8) r1)), dIq p0.ID] [] [] fun r12 =>
 (some (bF (r12, 0)))) (
 cond (p0.Kind == 7) (
 κ.t 20 aL [.d (.sl [.int .u8] (List.map (aO .u8) r1)), dIq p0.ID] [] [] fun r13 =>
 (some (bF (r13, 0)))) (
 cond (p0.Kind == 8) (
 κ.t 20 aL [.d (.sl [.int .u8] (List.map (aO .u8) r1)), dIq p0.ID] [] [] fun r14 =>
 κ.t 63 aL [.d (.sl [.int .u8] (List.map (aO .u8) r14)), .d (.sl aG.ks (List.map aG.enc p0.Subs))] [] [] fun r15 =>
 (some (bF (r15, 0)))) (
 cond (p0.Kind == 9) (
 κ.t 20 aL [.d (.sl [.int .u8] (List.map (aO .u8) r1)), dIq p0.ID] [] [] fun r16 =>
 κ.t 20 aL [.d (.sl [.int .u8] (List.map (aO .u8) r16)), dIq (lM eI p0.Codes : Int)] [] [] fun r17 =>
 ajW lab κ (List.map eI p0.Codes) (lM eI p0.Codes : Int) 0 (List.map (aO .u8) r17)) (
 cond (p0.Kind == 11) (
 κ.t 20 aL [.d (.sl [.int .u8] (List.map (aO .u8) r1)), dIq p0.ID] [] [] fun r18 =>
 κ.t 20 aL [.d (.sl [.int .u8] (List.map (aO .u8) r18)), dIq (lM eI p0.Codes : Int)] [] [] fun r19 =>
 ajW lab κ (List.map eI p0.Codes) (lM eI p0.Codes : Int) 0 (List.map (aO .u8) r19)) (
 cond (p0.Kind == 10) (
 κ.t 20 aL [.d (.sl [.int .u8] (List.map (aO .u8) r1)), dIq p0.ID] [] [] fun r20 =>
 κ.t 64 aL [.d (.sl [.int .u8] (List.map (aO .u8) r20)), .d (.sl [.str] (List.map aZ p0.Filters))] [] [] fun r21 =>
 (some (bF (r21, 0)))) (
 cond (p0.Kind == 14) (
 κ.t 20 aL [.d (.sl [.int .u8] (List.map (aO .u8) r1)), dIq p0.Code] [] [] fun r22 =>
 (some (bF (r22, 0)))) (
 (some (bF (r1, 0)))))))))))))))) := by kernel_rfl
theorem ayG (κ : Tau) (x79 : List Int) (x80 x81 : Int) (w3005 : List Int) : ajW cA κ (List.map eI x79) x80 x81 (List.map (aO .u8) w3005) =
 cond (decide (x81 < x80)) (
 cond (iB x81 (lM eI x79 : Int)) (
  κ.t 20 aL [.d (.sl [.int .u8] (List.map (aO .u8) w3005)), dIq (aX (cE eI x79 x81 0))] [] [] fun r23 =>
  ajW lab κ (List.map eI x79) x80 (w6 (x81 + 1)) (List.map (aO .u8) r23)) none) (
 (some (bF (w3005, 0)))) := by kernel_rfl
theorem acf : ∀ (fu : Nat) (x79 : List Int) (x80 x81 : Int) (w3005 : List Int), Le (Option.map bF (j4 fu x79 x80 x81 w3005)) (ajW lab (kF 32) (List.map eI x79) x80 x81 (List.map (aO .u8) w3005)) := by
 intro fu
 induction fu with
 | zero => intros; exact le_none
 | succ fu ih =>
  intro x79 x80 x81 w3005
  refine bR (ayG _ x79 x80 x81 w3005) ?_
  unfold j4
  refine lC ?_ ?_
  ·refine lGe ?_
   refine lQ eX bC (by (try simp only [EN]); exact eR w3005 (List.getD x79 (Int.toNat x81) default)) fun r23 _ => ?_
   exact ih x79 x80 (w6 (x81 + 1)) r23
  ·exact aN rfl
theorem agR (p0 : aA) : Le (Option.map bF (zV p0)) (aY SE 32 [aA.av p0] [] []) := by
 refine bD (T32 _ p0) ?_
 unfold zV
 repeat' first | (with_reducible first | refine lC ?_ ?_ | refine lQ eX bA ?_ fun _ _ => ?_ | refine lQ eX bC ?_ fun _ _ => ?_ | refine lQ eX bC ?_ fun _ _ => ?_ | refine lQ eX bA ?_ fun _ _ => ?_ | refine lQ eX bC ?_ fun _ _ => ?_ | refine lQ eX bC ?_ fun _ _ => ?_ | refine lQ eX bC ?_ fun _ _ => ?_ | exact ae7 _ | exact eR _ _ | exact amJ _ _ | exact aah _ | exact agD _ _ | exact ag4 _ _ | exact acf fuel _ _ _ _ | exact alS _ _ | refine aN ?_) | rfl | (simp only [EN]; exact eR _ _) | (simp only [EN]; exact acf fuel _ _ _ _) | (simp only [EN, bF] <;> rfl)
noncomputable def apr (L : cD) (κ : Tau) (a0 : List (List D)) (a1 a2 : Int) (a3 : List (List D)) : Res := rl L κ 19 0 [1, 1, 0, 1, 0] (bQ [(4, .row 3004), (9, .d (.sl aA.ks a0)), (10, dIq a1), (11, dIq a2)] [] [] [] [(3004, ⟨[.int .u8], 5, 1, a3⟩)])
theorem T19 (κ : Tau) (p0 : List aA) : bdy κ 19 [.d (.sl aA.ks (List.map aA.enc p0))] [] [] =
 apr lab κ (List.map aA.enc p0) (lM aA.enc p0 : Int) 0 (List.map (aO .u8) []) := by kernel_rfl
theorem aAk (κ : Tau) (x9 : List aA) (x10 x11 : Int) (w3004 : List Int) : apr cA κ (List.map aA.enc x9) x10 x11 (List.map (aO .u8) w3004) =
 cond (decide (x11 < x10)) (
 cond (iB x11 (lM aA.enc x9 : Int)) (
  κ.t 32 bF [.agg [dIq (aX (cE aA.enc x9 x11 0)), dIq (aX (cE aA.enc x9 x11 1)), dBq (bX (cE aA.enc x9 x11 2)), dSq (bM (cE aA.enc x9 x11 3)), dSq (bM (cE aA.enc x9 x11 4)), dIq (aX (cE aA.enc x9 x11 5)), dBq (bX (cE aA.enc x9 x11 6)), dIq (aX (cE aA.enc x9 x11 7)), dIq (aX (cE aA.enc x9 x11 8)), dSq (bM (cE aA.enc x9 x11 9)), dIq (aX (cE aA.enc x9 x11 10)), .d (.sl aE.ks (dSl (cE aA.enc x9 x11 11))), dSq (bM (cE aA.enc x9 x11 12)), dSq (bM (cE aA.enc x9 x11 13)), dBq (bX (cE aA.enc x9 x11 14)), dIq (aX (cE aA.enc x9 x11 15)), dIq (aX (cE aA.enc x9 x11 16)), dIq (aX (cE aA.enc x9 x11 17)), dBq (bX (cE aA.enc x9 x11 18)), dIq (aX (cE aA.enc x9 x11 19)), dSq (bM (cE aA.enc x9 x11 20)), dSq (bM (cE aA.enc x9 x11 21)), dIq (aX (cE aA.enc x9 x11 22)), dBq (bX (cE aA.enc x9 x11 23)), dIq (aX (cE aA.enc x9 x11 24)), dIq (aX (cE aA.enc x9 x11 25)), dSq (bM (cE aA.enc x9 x11 26)), dIq (aX (cE aA.enc x9 x11 27)), .d (.sl aE.ks (dSl (cE aA.enc x9 x11 28))), dBq (bX (cE aA.enc x9 x11 29)), dIq (aX (cE aA.enc x9 x11 30)), .d (.sl aG.ks (dSl (cE aA.enc x9 x11 31))), .d (.sl [.str] (dSl (cE aA.enc x9 x11 32))), .d (.sl [.int .i64] (dSl (cE aA.enc x9 x11 33)))]] [] [] fun r0 =>
  cond (r0.2 != 0) (
  (some (bF ([], r0.2)))) (
  κ.t 20 aL [.d (.sl [.int .u8] (List.map (aO .u8) w3004)), dIq (lM (aO .u8) r0.1 : Int)] [] [] fun r1 =>
  cond (decide ((lM (aO .u8) r1 + lM (aO .u8) r0.1) * 1 ≤ 140737488355328)) (
  apr lab κ (List.map aA.enc x9) x10 (w6 (x11 + 1)) (((List.map (aO .u8) r1) ++ (List.map (aO .u8) r0.1)))) none)) none) (
 (some (bF (w3004, 0)))) := by kernel_rfl
theorem ahC : ∀ (fu : Nat) (x9 : List aA) (x10 x11 : Int) (w3004 : List Int), Le (Option.map bF (k9 fu x9 x10 x11 w3004)) (apr lab (kF 19) (List.map aA.enc x9) x10 x11 (List.map (aO .u8) w3004)) := by
 intro fu
 induction fu with
 | zero => intros; exact le_none
 | succ fu ih =>
  intro x9 x10 x11 w3004
  refine bR (aAk _ x9 x10 x11 w3004) ?_
  unfold k9
  repeat' first | (with_reducible first | refine lC ?_ ?_ | refine lQ eX xD ?_ fun _ _ => ?_ | refine lQ eX bC ?_ fun _ _ => ?_ | refine lG ?_ ?_ | exact agR _ | exact eR _ _ | exact ih _ _ _ _ | refine aN ?_) | rfl | (simp only [EN]; done) | (simp only [EN]; exact agR _) | (simp only [EN]; exact eR _ _) | (simp only [EN]; exact ih _ _ _ _) | (simp only [EN, bF] <;> rfl)
theorem akx (p0 : List aA) : Le (Option.map bF (uD p0)) (aY SE 19 [.d (.sl aA.ks (List.map aA.enc p0))] [] []) := by
 refine bD (T19 _ p0) ?_
 unfold uD
 (try simp only [EN]); exact ahC fuel p0 (List.length p0 : Int) 0 []
noncomputable def apm (L : cD) (κ : Tau) (a0 : Int) (a1 : List (List D)) (a2 a3 : Int) : Res := rl L κ 35 0 [1, 1, 0, 1, 0] (bQ [(3, .d (.int .u32 a0)), (6, .d (.sl [.int .u8] a1)), (7, dIq a2), (8, dIq a3)] [] [] [] [])
theorem T35 (κ : Tau) (p0 : List Int) : bdy κ 35 [.d (.sl [.int .u8] (List.map (aO .u8) p0))] [] [] =
 apm lab κ 2166136261 (List.map (aO .u8) p0) (lM (aO .u8) p0 : Int) 0 := by kernel_rfl
theorem aAf (κ : Tau) (x3 : Int) (x6 : List Int) (x7 x8 : Int) : apm cA κ x3 (List.map (aO .u8) x6) x7 x8 =
 cond (decide (x8 < x7)) (
 cond (iB x8 (lM (aO .u8) x6 : Int)) (
  apm lab κ ((IntKind.wrap .u32 ((cB .xor .u32 x3 (IntKind.wrap .u32 (aX (cE (aO .u8) x6 x8 0)))) * 16777619))) (List.map (aO .u8) x6) x7 (w6 (x8 + 1))) none) (
 (rI (w6 x3))) := by kernel_rfl
theorem amn : ∀ (fu : Nat) (x3 : Int) (x6 : List Int) (x7 x8 : Int), Le (Option.map aH (rO fu x3 x6 x7 x8)) (apm lab (kF 35) x3 (List.map (aO .u8) x6) x7 x8) := by
 intro fu
 induction fu with
 | zero => intros; exact le_none
 | succ fu ih =>
  intro x3 x6 x7 x8
  refine bR (aAf _ x3 x6 x7 x8) ?_
  unfold rO
  repeat' first | (with_reducible first | refine lC ?_ ?_ | refine lG ?_ ?_ | exact ih _ _ _ _ | refine aN ?_) | rfl | (simp only [EN]; done) | (simp only [EN]; exact ih _ _ _ _) | (simp only [EN, aH] <;> rfl)
theorem aeq (p0 : List Int) : Le (Option.map aH (aaR p0)) (aY SE 35 [.d (.sl [.int .u8] (List.map (aO .u8) p0))] [] []) := by
 refine bD (T35 _ p0) ?_
 unfold aaR
 (try simp only [EN]); exact amn fuel 2166136261 p0 (List.length p0 : Int) 0
theorem T21 (κ : Tau) (p0 : List Int) : bdy κ 21 [.d (.sl [.int .u8] (List.map (aO .u8) p0))] [] [] =
 cond (decide ((lM (aO .u8) p0 : Int) > 65536)) (
 (some (aL []))) (
 κ.t 35 aH [.d (.sl [.int .u8] (List.map (aO .u8) p0))] [] [] fun r0 =>
 κ.t 20 aL [.d (.sl [.int .u8] (List.map (aO .u8) [])), dIq (lM (aO .u8) p0 : Int)] [] [] fun r1 =>
 cond (decide ((lM (aO .u8) r1 + lM (aO .u8) [(IntKind.wrap .u8 (shr .i64 r0 24)), (IntKind.wrap .u8 (shr .i64 r0 16)), (IntKind.wrap .u8 (shr .i64 r0 8)), (IntKind.wrap .u8 r0)]) * 1 ≤ 140737488355328)) (
 cond (decide ((List.length ((List.map (aO .u8) r1) ++ (List.map (aO .u8) [(IntKind.wrap .u8 (shr .i64 r0 24)), (IntKind.wrap .u8 (shr .i64 r0 16)), (IntKind.wrap .u8 (shr .i64 r0 8)), (IntKind.wrap .u8 r0)])) + lM (aO .u8) p0) * 1 ≤ 140737488355328)) (
  (some (.ret [.row 0] [] [⟨[.int .u8], 5, 1, (((List.map (aO .u8) r1) ++ (List.map (aO .u8) [(IntKind.wrap .u8 (shr .i64 r0 24)), (IntKind.wrap .u8 (shr .i64 r0 16)), (IntKind.wrap .u8 (shr .i64 r0 8)), (IntKind.wrap .u8 r0)])) ++ (List.map (aO .u8) p0))⟩]))) none) none) := by kernel_rfl
theorem aoX (p0 : List Int) : Le (Option.map aL (aa6 p0)) (aY SE 21 [.d (.sl [.int .u8] (List.map (aO .u8) p0))] [] []) := by
 refine bD (T21 _ p0) ?_
 unfold aa6
 repeat' first | (with_reducible first | refine lQ eX bA ?_ fun _ _ => ?_ | refine lQ eX bC ?_ fun _ _ => ?_ | refine lG ?_ ?_ | refine lD ?_ ?_ ?_ | exact aeq _ | exact eR _ _ | refine aN ?_) | rfl | (simp only [EN]; done) | (simp only [EN]; exact eR _ _) | (simp only [EN, aL] <;> rfl)
noncomputable def avy (L : cD) (κ : Tau) (a0 : List (List D)) (a1 a2 : List D) : Res := rl L κ 9 0 [1, 1, 1, 0] (bQ [(1, .d (.sl aA.ks a0)), (2, .ptr 1000000000 0), (5, .ptr 1000000001 0)] [⟨23, (List.map AV.d a1)⟩, ⟨23, (List.map AV.d a2)⟩] [] [] [])
theorem T9 (κ : Tau) (p0 : aJ) (p1 : List aA) : bdy κ 9 [aJ.av p0, .d (.sl aA.ks (List.map aA.enc p1))] [] [] =
 cond p0.Broken (
 (some (cC ([], p0, 21)))) (
 cond (decide (p0.Conn < 0)) (
 (some (cC ([], p0, 1)))) (
 cond (decide (p0.Conn > 1099511627776)) (
 (some (cC ([], p0, 1)))) (
 cond (decide (p0.Sent < 0)) (
 (some (cC ([], p0, 1)))) (
 cond (decide (p0.Sent ≥ 1099511627776)) (
 (some (cC ([], p0, 1)))) (
 avy lab κ (List.map aA.enc p1) (aJ.enc p0) (aJ.enc (aJ.mk 0 0 0 false))))))) := by kernel_rfl
theorem aBo (κ : Tau) (x1 : List aA) (b0 b1 : aJ) : avy cA κ (List.map aA.enc x1) (aJ.enc b0) (aJ.enc b1) =
 κ.t 19 bF [.d (.sl aA.ks (List.map aA.enc x1))] [] [] fun r0 =>
 cond (r0.2 != 0) (
 (some (cC ([], b0, r0.2)))) (
 κ.t 20 aL [.d (.sl [.int .u8] (List.map (aO .u8) [])), dIq b0.Conn] [] [] fun r1 =>
 κ.t 20 aL [.d (.sl [.int .u8] (List.map (aO .u8) r1)), dIq (w6 (b0.Sent + 1))] [] [] fun r2 =>
 cond (decide ((lM (aO .u8) r2 + lM (aO .u8) r0.1) * 1 ≤ 140737488355328)) (
 cond (decide ((List.length ((List.map (aO .u8) r2) ++ (List.map (aO .u8) r0.1)) : Int) > 65536)) (
  (some (cC ([], b0, 5)))) (
 κ.t 21 aL [.d (.sl [.int .u8] ((List.map (aO .u8) r2) ++ (List.map (aO .u8) r0.1)))] [] [] fun r3 =>
 (some (cC (r3, (aJ.mk b0.Conn (w6 (b0.Sent + 1)) b0.Got b0.Broken), 0))))) none) := by kernel_rfl
theorem akD (x1 : List aA) (b0 b1 : aJ) : Le (Option.map cC (yQ x1 b0 b1)) (avy lab (kF 9) (List.map aA.enc x1) (aJ.enc b0) (aJ.enc b1)) := by
 refine bR (aBo _ x1 b0 b1) ?_
 unfold yQ
 repeat' first | (with_reducible first | refine lC ?_ ?_ | refine lQ eX xD ?_ fun _ _ => ?_ | refine lQ eX bC ?_ fun _ _ => ?_ | refine lQ eX bC ?_ fun _ _ => ?_ | refine lG ?_ ?_ | refine lD ?_ ?_ ?_ | exact akx _ | exact eR _ _ | exact aoX _ | refine aN ?_) | rfl | (simp only [EN]; done) | (simp only [EN]; exact eR _ _) | (simp only [EN]; exact aoX _) | (simp only [EN, cC] <;> rfl)
theorem rK (p0 : aJ) (p1 : List aA) : Le (Option.map cC (rE p0 p1)) (aY SE 9 [aJ.av p0, .d (.sl aA.ks (List.map aA.enc p1))] [] []) := by
 refine bD (T9 _ p0 p1) ?_
 unfold rE
 repeat' first | (with_reducible first | refine lC ?_ ?_ | exact akD _ _ _ | refine aN ?_) | rfl | (simp only [EN, cC] <;> rfl)
theorem T70 (κ : Tau) (p0 : Int) : bdy κ 70 [.d (.int .u64 p0)] [] [] =
 cond ((cB .and .u64 p0 1) == 1) (
 (rI (w6 ((w6 (0 - (w6 (shr .u64 p0 1)))) - 1)))) (
 (rI (w6 (shr .u64 p0 1)))) := by kernel_rfl
theorem ant (p0 : Int) : Le (Option.map aH (lO p0)) (aY SE 70 [.d (.int .u64 p0)] [] []) := by
 refine bD (T70 _ p0) ?_
 unfold lO
 refine lC ?_ ?_
 ·exact aN rfl
 ·exact aN rfl
noncomputable def agn (L : cD) (κ : Tau) (a0 : List (List D)) (a1 a2 a3 a4 a5 : Int) (a6 a7 a8 : Bool) : Res := rl L κ 41 0 [1, 1, 1, 1, 0, 0, 0, 0, 1, 1, 1, 0] (bQ [(0, .d (.sl [.int .u8] a0)), (1, dIq a1), (7, .d (.int .u64 a2)), (8, dIq a3), (9, .d (.int .u8 a4)), (39, dIq a5), (40, dBq a6), (41, dBq a7), (44, dBq a8)] [] [] [] [])
noncomputable def ank (L : cD) (κ : Tau) (a0 : List (List D)) (a1 a2 a3 : Int) : Res := rl L κ 41 0 [1, 1, 1, 1, 0] (bQ [(0, .d (.sl [.int .u8] a0)), (1, dIq a1), (7, .d (.int .u64 a2)), (8, dIq a3)] [] [] [] [])
noncomputable def asX (L : cD) (κ : Tau) (a0 : List (List D)) (a1 : Int) : Res := rl L κ 41 0 [1, 1, 0] (bQ [(0, .d (.sl [.int .u8] a0)), (1, dIq a1)] [] [] [] [])
theorem T41 (κ : Tau) (p0 : List Int) (p1 : Int) : bdy κ 41 [.d (.sl [.int .u8] (List.map (aO .u8) p0)), dIq p1] [] [] =
 cond (decide (p1 < 0)) (
 (some (bH (0, 0, 1)))) (
 cond (decide (p1 > (lM (aO .u8) p0 : Int))) (
 (some (bH (0, 0, 1)))) (
 asX lab κ (List.map (aO .u8) p0) p1)) := by kernel_rfl
theorem ayr (κ : Tau) (x0 : List Int) (x1 x7 x8 x9 x39 : Int) (x40 x41 x44 : Bool) : agn cA κ (List.map (aO .u8) x0) x1 x7 x8 x9 x39 x40 x41 x44 =
 cond (decide (0 ≤ (w6 (7 * x8)))) (
 cond (decide (x9 < 128)) (
  κ.t 70 aH [.d (.int .u64 (cB .or .u64 x7 (shl .u64 (IntKind.wrap .u64 (cB .and .u8 x9 127)) (w6 (7 * x8)))))] [] [] fun r0 =>
  (some (bH (r0, (w6 ((w6 (x1 + x8)) + 1)), 0)))) (
 ank lab κ (List.map (aO .u8) x0) x1 ((cB .or .u64 x7 (shl .u64 (IntKind.wrap .u64 (cB .and .u8 x9 127)) (w6 (7 * x8))))) (w6 (x8 + 1)))) none := by kernel_rfl
theorem azX (κ : Tau) (x0 : List Int) (x1 x7 x8 : Int) : ank cA κ (List.map (aO .u8) x0) x1 x7 x8 =
 cond ((w6 (x1 + x8)) == (lM (aO .u8) x0 : Int)) (
 (some (bH (0, 0, 3)))) (
 cond (iB (w6 (x1 + x8)) (lM (aO .u8) x0 : Int)) (
 cond (x8 == 9) (
  cond (decide ((aX (cE (aO .u8) x0 (w6 (x1 + x8)) 0)) > 1)) (
  (some (bH (0, 0, 2)))) (
  cond (decide (x8 > 0)) (
  cond ((aX (cE (aO .u8) x0 (w6 (x1 + x8)) 0)) == 0) (
   (some (bH (0, 0, 2)))) (
  agn lab κ (List.map (aO .u8) x0) x1 x7 x8 ((aX (cE (aO .u8) x0 (w6 (x1 + x8)) 0))) x8 (decide (x8 > 0)) true (((aX (cE (aO .u8) x0 (w6 (x1 + x8)) 0)) == 0)))) (
  agn lab κ (List.map (aO .u8) x0) x1 x7 x8 ((aX (cE (aO .u8) x0 (w6 (x1 + x8)) 0))) x8 (decide (x8 > 0)) false false))) (
 cond (decide (x8 > 0)) (
  cond ((aX (cE (aO .u8) x0 (w6 (x1 + x8)) 0)) == 0) (
  (some (bH (0, 0, 2)))) (
  agn lab κ (List.map (aO .u8) x0) x1 x7 x8 ((aX (cE (aO .u8) x0 (w6 (x1 + x8)) 0))) x8 (decide (x8 > 0)) true (((aX (cE (aO .u8) x0 (w6 (x1 + x8)) 0)) == 0)))) (
 agn lab κ (List.map (aO .u8) x0) x1 x7 x8 ((aX (cE (aO .u8) x0 (w6 (x1 + x8)) 0))) x8 (decide (x8 > 0)) false false))) none) := by kernel_rfl
theorem azx (κ : Tau) (x0 : List Int) (x1 : Int) : asX cA κ (List.map (aO .u8) x0) x1 =
 ank lab κ (List.map (aO .u8) x0) x1 0 0 := by kernel_rfl
theorem afc (k6 : (List Int) → Int → Int → Int → Option (Int × Int × Int)) (hk6 : ∀ (x0 : List Int) (x1 x7 x8 : Int), Le (Option.map bH (k6 x0 x1 x7 x8)) (ank lab (kF 41) (List.map (aO .u8) x0) x1 x7 x8)) (x0 : List Int) (x1 x7 x8 x9 x39 : Int) (x40 x41 x44 : Bool) : Le (Option.map bH (lS k6 x0 x1 x7 x8 x9 x39 x40 x41 x44)) (agn lab (kF 41) (List.map (aO .u8) x0) x1 x7 x8 x9 x39 x40 x41 x44) := by
 refine bR (ayr _ x0 x1 x7 x8 x9 x39 x40 x41 x44) ?_
 unfold lS
 repeat' first | (with_reducible first | refine lF ?_ | refine lC ?_ ?_ | refine lQ eX bA ?_ fun _ _ => ?_ | exact ant _ | exact hk6 _ _ _ _ | refine aN ?_) | rfl | (simp only [EN]; exact hk6 _ _ _ _) | (simp only [EN, bH] <;> rfl)
theorem anM : ∀ (fu : Nat) (x0 : List Int) (x1 x7 x8 : Int), Le (Option.map bH (eB fu x0 x1 x7 x8)) (ank lab (kF 41) (List.map (aO .u8) x0) x1 x7 x8) := by
 intro fu
 induction fu with
 | zero => intros; exact le_none
 | succ fu ih =>
  intro x0 x1 x7 x8
  refine bR (azX _ x0 x1 x7 x8) ?_
  unfold eB
  repeat' first | (with_reducible first | refine lC ?_ ?_ | refine lG ?_ ?_ | refine lD ?_ ?_ ?_ | exact afc _ (ih) _ _ _ _ _ _ _ _ _ | refine aN ?_) | rfl | (simp only [EN]; done) | (simp only [EN]; exact afc _ (ih) _ _ _ _ _ _ _ _ _) | (simp only [EN, bH] <;> rfl)
theorem an0 (x0 : List Int) (x1 : Int) : Le (Option.map bH (zL x0 x1)) (asX lab (kF 41) (List.map (aO .u8) x0) x1) := by
 refine bR (azx _ x0 x1) ?_
 unfold zL
 exact anM fuel x0 x1 0 0
theorem zT (p0 : List Int) (p1 : Int) : Le (Option.map bH (qA p0 p1)) (aY SE 41 [.d (.sl [.int .u8] (List.map (aO .u8) p0)), dIq p1] [] []) := by
 refine bD (T41 _ p0 p1) ?_
 unfold qA
 refine lC ?_ ?_
 ·exact aN rfl
 ·refine lDe ?_ ?_
  ·exact aN rfl
  ·exact an0 p0 p1
theorem T40 (κ : Tau) (p0 : List Int) (p1 : Int) : bdy κ 40 [.d (.sl [.int .u8] (List.map (aO .u8) p0)), dIq p1] [] [] =
 κ.t 41 bH [.d (.sl [.int .u8] (List.map (aO .u8) p0)), dIq p1] [] [] fun r0 =>
 cond (r0.2.2 != 0) (
 (some (dZ ([], 0, r0.2.2)))) (
 cond (decide (r0.1 < 0)) (
 (some (dZ ([], 0, 2)))) (
 cond (decide (r0.1 > 65536)) (
 (some (dZ ([], 0, 5)))) (
 cond (decide ((w6 ((lM (aO .u8) p0 : Int) - r0.2.1)) < (w6 (4 + r0.1)))) (
 (some (dZ ([], 0, 3)))) (
 cond (decide (0 ≤ (w6 (r0.2.1 + 4))) && decide ((w6 (r0.2.1 + 4)) ≤ ((lM (aO .u8) p0) : Int))) (
 cond (decide (0 ≤ (w6 (r0.2.1 + 4))) && decide ((w6 (r0.2.1 + 4)) ≤ (w6 (r0.2.1 + 4)))) (
  cond (decide (0 ≤ r0.2.1) && decide (r0.2.1 ≤ (w6 (r0.2.1 + 4)))) (
  cond (decide (0 ≤ r0.1) && decide (r0.1 ≤ r0.1) && decide (r0.1 * 1 ≤ 281474976710656)) (
   cond (decide (0 ≤ (w6 ((w6 (r0.2.1 + 4)) + r0.1))) && decide ((w6 ((w6 (r0.2.1 + 4)) + r0.1)) ≤ ((lM (aO .u8) p0) : Int))) (
   cond (decide (0 ≤ (w6 (r0.2.1 + 4))) && decide ((w6 (r0.2.1 + 4)) ≤ (w6 ((w6 (r0.2.1 + 4)) + r0.1)))) (
    cond (decide (0 ≤ 0) && decide (0 < (List.length (cF (List.map (aO .u8) p0) (some r0.2.1) (some (w6 (r0.2.1 + 4)))) : Int))) (
    cond (decide (0 ≤ 1) && decide (1 < (List.length (cF (List.map (aO .u8) p0) (some r0.2.1) (some (w6 (r0.2.1 + 4)))) : Int))) (
     cond (decide (0 ≤ 2) && decide (2 < (List.length (cF (List.map (aO .u8) p0) (some r0.2.1) (some (w6 (r0.2.1 + 4)))) : Int))) (
     cond (decide (0 ≤ 3) && decide (3 < (List.length (cF (List.map (aO .u8) p0) (some r0.2.1) (some (w6 (r0.2.1 + 4)))) : Int))) (
      κ.t 35 aH [.d (.sl [.int .u8] (List.take (List.length (List.replicate (Int.toNat r0.1) [D.int .u8 0])) (cF (List.map (aO .u8) p0) (some (w6 (r0.2.1 + 4))) (some (w6 ((w6 (r0.2.1 + 4)) + r0.1)))) ++ List.drop (min (List.length (cF (List.map (aO .u8) p0) (some (w6 (r0.2.1 + 4))) (some (w6 ((w6 (r0.2.1 + 4)) + r0.1))))) (List.length (List.replicate (Int.toNat r0.1) [D.int .u8 0]))) (List.replicate (Int.toNat r0.1) [D.int .u8 0])))] [] [] fun r1 =>
      cond ((cB .or .i64 (cB .or .i64 (cB .or .i64 (shl .i64 (w6 (aX (cellAt (elemAt (cF (List.map (aO .u8) p0) (some r0.2.1) (some (w6 (r0.2.1 + 4)))) (Int.toNat 0)) 0))) 24) (shl .i64 (w6 (aX (cellAt (elemAt (cF (List.map (aO .u8) p0) (some r0.2.1) (some (w6 (r0.2.1 + 4)))) (Int.toNat 1)) 0))) 16)) (shl .i64 (w6 (aX (cellAt (elemAt (cF (List.map (aO .u8) p0) (some r0.2.1) (some (w6 (r0.2.1 + 4)))) (Int.toNat 2)) 0))) 8)) (w6 (aX (cellAt (elemAt (cF (List.map (aO .u8) p0) (some r0.2.1) (some (w6 (r0.2.1 + 4)))) (Int.toNat 3)) 0)))) != r1) (
      (some (dZ ([], 0, 4)))) (
      (some (.ret [.row 0, dIq (w6 ((w6 (r0.2.1 + 4)) + r0.1)), dIq 0] [] [⟨[.int .u8], 5, 1, (List.take (List.length (List.replicate (Int.toNat r0.1) [D.int .u8 0])) (cF (List.map (aO .u8) p0) (some (w6 (r0.2.1 + 4))) (some (w6 ((w6 (r0.2.1 + 4)) + r0.1)))) ++ List.drop (min (List.length (cF (List.map (aO .u8) p0) (some (w6 (r0.2.1 + 4))) (some (w6 ((w6 (r0.2.1 + 4)) + r0.1))))) (List.length (List.replicate (Int.toNat r0.1) [D.int .u8 0]))) (List.replicate (Int.toNat r0.1) [D.int .u8 0]))⟩])))) none) none) none) none) none) none) none) none) none) none)))) := by kernel_rfl
theorem ao4 (p0 : List Int) (p1 : Int) : Le (Option.map dZ (abh p0 p1)) (aY SE 40 [.d (.sl [.int .u8] (List.map (aO .u8) p0)), dIq p1] [] []) := by
 refine bD (T40 _ p0 p1) ?_
 unfold abh
 repeat' first | (with_reducible first | refine lF ?_ | refine lC ?_ ?_ | refine lQ eX jP ?_ fun _ _ => ?_ | refine lQ eX bA ?_ fun _ _ => ?_ | refine lG ?_ ?_ | refine lD ?_ ?_ ?_ | exact zT _ _ | exact aeq _ | refine aN ?_) | rfl | (simp only [EN]; done) | (simp only [EN]; exact aeq _) | (simp only [EN, dZ] <;> rfl)
theorem T25 (κ : Tau) (p0 : List Int) : bdy κ 25 [.d (.sl [.int .u8] (List.map (aO .u8) p0))] [] [] =
 κ.t 40 dZ [.d (.sl [.int .u8] (List.map (aO .u8) p0)), dIq 0] [] [] fun r0 =>
 cond (r0.2.2 != 0) (
 (some (dO (0, 0, [], r0.2.2)))) (
 cond (decide (r0.2.1 < (lM (aO .u8) p0 : Int))) (
 (some (dO (0, 0, [], 2)))) (
 κ.t 41 bH [.d (.sl [.int .u8] (List.map (aO .u8) r0.1)), dIq 0] [] [] fun r1 =>
 cond (r1.2.2 != 0) (
 (some (dO (0, 0, [], r1.2.2)))) (
 κ.t 41 bH [.d (.sl [.int .u8] (List.map (aO .u8) r0.1)), dIq r1.2.1] [] [] fun r2 =>
 cond (r2.2.2 != 0) (
 (some (dO (0, 0, [], r2.2.2)))) (
 cond (decide (0 ≤ r2.2.1) && decide (r2.2.1 ≤ ((lM (aO .u8) r0.1) : Int))) (
 (some (.ret [dIq r1.1, dIq r2.1, .d (.sl [.int .u8] (List.take ((lM (aO .u8) r0.1) - (Int.toNat r2.2.1)) (List.drop (Int.toNat r2.2.1) (List.map (aO .u8) r0.1)))), dIq 0] [] []))) none)))) := by kernel_rfl
theorem agB (p0 : List Int) : Le (Option.map dO (zZ p0)) (aY SE 25 [.d (.sl [.int .u8] (List.map (aO .u8) p0))] [] []) := by
 refine bD (T25 _ p0) ?_
 unfold zZ
 repeat' first | (with_reducible first | refine lC ?_ ?_ | refine lQ eX agZ ?_ fun _ _ => ?_ | refine lQ eX jP ?_ fun _ _ => ?_ | refine lG ?_ ?_ | refine lD ?_ ?_ ?_ | exact ao4 _ _ | exact zT _ _ | refine aN ?_) | rfl | (simp only [EN]; done) | (simp only [EN, dO] <;> rfl)
theorem T17 (κ : Tau) (p0 : List Int) : bdy κ 17 [.d (.sl [.int .u8] (List.map (aO .u8) p0))] [] [] =
 κ.t 25 dO [.d (.sl [.int .u8] (List.map (aO .u8) p0))] [] [] fun r0 =>
 (some (bH (r0.1, r0.2.1, r0.2.2.2))) := by kernel_rfl
theorem anB (p0 : List Int) : Le (Option.map bH (agi p0)) (aY SE 17 [.d (.sl [.int .u8] (List.map (aO .u8) p0))] [] []) := by
 refine bD (T17 _ p0) ?_
 unfold agi
 refine lQ eX abb (agB _) fun r0 _ => ?_
 exact aN rfl
theorem T73 (κ : Tau) (p0 : Bool) (p1 : Int) : bdy κ 73 [dBq p0, dIq p1] [] [] =
 cond p0 (
 (some (.pan (.ifc 98 (aQ.av (aQ.mk p1)))))) (
 (some (.ret [] [] []))) := by kernel_rfl
theorem pC (p0 : Bool) (p1 : Int) : Le (Option.map fG (eE p0 p1)) (aY SE 73 [dBq p0, dIq p1] [] []) := by
 refine bD (T73 _ p0 p1) ?_
 unfold eE
 refine lC ?_ ?_
 ·exact aN rfl
 ·exact aN rfl
theorem T72 (κ : Tau) (p0 : aI) : bdy κ 72 [.ptr 2000000000 0] [⟨101, (aI.avs p0)⟩] [] =
 κ.t 41 bH [.d (.sl [.int .u8] (List.map (aO .u8) p0.b)), dIq p0.at_] [] [] fun r0 =>
 κ.p 73 fG [dBq (r0.2.2 != 0), dIq r0.2.2] [] [] (fun e2 =>
 (some (.pan (.ifc 98 (aQ.av e2))))) fun r1 =>
 (some (nN (r0.1, (aI.mk p0.b r0.2.1)))) := by kernel_rfl
theorem eN (p0 : aI) : Le (Option.map bJ (bS p0)) (aY SE 72 [.ptr 2000000000 0] [⟨101, (aI.avs p0)⟩] []) := by
 refine bD (T72 _ p0) ?_
 unfold bS
 refine lQ eX jP (zT _ _) fun r0 _ => ?_
 refine lQp eX pY (pC _ _) (fun e2 _ => ?_) (fun r1 _ => ?_)
 ·exact aN rfl
 ·exact aN rfl
theorem aBT (κ : Tau) (p0 : List Int) (p1 p2 : Int) : bdy κ 138 [.d (.sl [.int .u8] (List.map (aO .u8) p0)), dIq p1, dIq p2] [] [] =
 κ.t 41 bH [.d (.sl [.int .u8] (List.map (aO .u8) p0)), dIq p1] [] [] fun r0 =>
 cond (r0.2.2 != 0) (
 (some (eU ([], 0, r0.2.2)))) (
 cond (decide (r0.1 < 0)) (
 (some (eU ([], 0, 2)))) (
 cond (decide (r0.1 > p2)) (
 (some (eU ([], 0, 5)))) (
 cond (decide (r0.1 > (w6 ((lM (aO .u8) p0 : Int) - r0.2.1)))) (
 (some (eU ([], 0, 3)))) (
 cond (decide (0 ≤ (w6 (r0.2.1 + r0.1))) && decide ((w6 (r0.2.1 + r0.1)) ≤ ((lM (aO .u8) p0) : Int))) (
 cond (decide (0 ≤ (w6 (r0.2.1 + r0.1))) && decide ((w6 (r0.2.1 + r0.1)) ≤ (w6 (r0.2.1 + r0.1)))) (
  cond (decide (0 ≤ r0.2.1) && decide (r0.2.1 ≤ (w6 (r0.2.1 + r0.1)))) (
  (some (.ret [dSq (uN (cF (List.map (aO .u8) p0) (some r0.2.1) (some (w6 (r0.2.1 + r0.1))))), dIq (w6 (r0.2.1 + r0.1)), dIq 0] [] []))) none) none) none)))) := by kernel_rfl
theorem aq3 (p0 : List Int) (p1 p2 : Int) : Le (Option.map eU (vE p0 p1 p2)) (aY SE 138 [.d (.sl [.int .u8] (List.map (aO .u8) p0)), dIq p1, dIq p2] [] []) := by
 refine bD (aBT _ p0 p1 p2) ?_
 unfold vE
 repeat' first | (with_reducible first | refine lF ?_ | refine lC ?_ ?_ | refine lQ eX jP ?_ fun _ _ => ?_ | refine lG ?_ ?_ | refine lD ?_ ?_ ?_ | exact zT _ _ | refine aN ?_) | rfl | (simp only [EN]; done) | (simp only [EN, eU] <;> rfl)
theorem aBz (κ : Tau) (p0 : aI) (p1 : Int) : bdy κ 122 [.ptr 2000000000 0, dIq p1] [⟨101, (aI.avs p0)⟩] [] =
 κ.t 138 eU [.d (.sl [.int .u8] (List.map (aO .u8) p0.b)), dIq p0.at_, dIq p1] [] [] fun r0 =>
 κ.p 73 fG [dBq (r0.2.2 != 0), dIq r0.2.2] [] [] (fun e2 =>
 (some (.pan (.ifc 98 (aQ.av e2))))) fun r1 =>
 (some (.ret [dSq r0.1] [⟨101, (aI.avs (aI.mk p0.b r0.2.1))⟩] [])) := by kernel_rfl
theorem jH (p0 : aI) (p1 : Int) : Le (Option.map cY (dF p0 p1)) (aY SE 122 [.ptr 2000000000 0, dIq p1] [⟨101, (aI.avs p0)⟩] []) := by
 refine bD (aBz _ p0 p1) ?_
 unfold dF
 refine lQ eX acQ (aq3 _ _ _) fun r0 _ => ?_
 refine lQp eX pY (pC _ _) (fun e2 _ => ?_) (fun r1 _ => ?_)
 ·exact aN rfl
 ·exact aN rfl
theorem T99 (κ : Tau) (p0 : aI) (p1 : Int) : bdy κ 99 [.ptr 2000000000 0, dIq p1] [⟨101, (aI.avs p0)⟩] [] =
 κ.p 72 bJ [.ptr 2000000000 0] [⟨101, (aI.avs p0)⟩] [] (fun e1 =>
 (some (.pan (.ifc 98 (aQ.av e1))))) fun r0 =>
 cond (decide (r0.1 < 0)) (
 κ.p 73 fG [dBq true, dIq 2] [] [] (fun e3 =>
  (some (.pan (.ifc 98 (aQ.av e3))))) fun r2 =>
 (some (jN (r0.1, r0.2)))) (
 κ.p 73 fG [dBq (decide (r0.1 ≥ p1)), dIq 2] [] [] (fun e5 =>
 (some (.pan (.ifc 98 (aQ.av e5))))) fun r4 =>
 (some (jN (r0.1, r0.2)))) := by kernel_rfl
theorem nJ (p0 : aI) (p1 : Int) : Le (Option.map eH (eF p0 p1)) (aY SE 99 [.ptr 2000000000 0, dIq p1] [⟨101, (aI.avs p0)⟩] []) := by
 refine bD (T99 _ p0 p1) ?_
 unfold eF
 refine lQp eX eD (eN _) (fun e1 _ => ?_) (fun r0 _ => ?_)
 ·exact aN rfl
 ·refine lC ?_ ?_
  ·refine lQp eX pY (pC _ _) (fun e3 _ => ?_) (fun r2 _ => ?_)
   ·exact aN rfl
   ·exact aN rfl
  ·refine lQp eX pY (pC _ _) (fun e5 _ => ?_) (fun r4 _ => ?_)
   ·exact aN rfl
   ·exact aN rfl
theorem aB4 (κ : Tau) (p0 p1 : Int) : bdy κ 123 [dIq p0, dIq p1] [] [] =
 cond (decide (p1 ≥ 0)) (
 cond (decide (p1 < 32)) (
  cond (decide (0 ≤ p1)) (
  (rB ((cB .and .i64 (shr .i64 p0 p1) 1) == 1))) none) (
 (rB false))) (
 (rB false)) := by kernel_rfl
theorem ap6 (p0 p1 : Int) : Le (Option.map packet_is_out (aaD p0 p1)) (aY SE 123 [dIq p0, dIq p1] [] []) := by
 refine bD (aB4 _ p0 p1) ?_
 unfold aaD
 refine lC ?_ ?_
 ·refine lC ?_ ?_
  ·refine lF ?_
   exact aN rfl
  ·exact aN rfl
 ·exact aN rfl
theorem aA9 (κ : Tau) (p0 : aI) (p1 : Int) : bdy κ 124 [.ptr 2000000000 0, dIq p1] [⟨101, (aI.avs p0)⟩] [] =
 κ.p 72 bJ [.ptr 2000000000 0] [⟨101, (aI.avs p0)⟩] [] (fun e1 =>
 (some (.pan (.ifc 98 (aQ.av e1))))) fun r0 =>
 κ.p 73 fG [dBq (decide (r0.1 < 0)), dIq 2] [] [] (fun e3 =>
 (some (.pan (.ifc 98 (aQ.av e3))))) fun r2 =>
 κ.p 73 fG [dBq (decide (r0.1 > p1)), dIq 5] [] [] (fun e5 =>
 (some (.pan (.ifc 98 (aQ.av e5))))) fun r4 =>
 (some (lW (r0.1, r0.2))) := by kernel_rfl
theorem xL (p0 : aI) (p1 : Int) : Le (Option.map iN (iT p0 p1)) (aY SE 124 [.ptr 2000000000 0, dIq p1] [⟨101, (aI.avs p0)⟩] []) := by
 refine bD (aA9 _ p0 p1) ?_
 unfold iT
 refine lQp eX eD (eN _) (fun e1 _ => ?_) (fun r0 _ => ?_)
 ·exact aN rfl
 ·refine lQp eX pY (pC _ _) (fun e3 _ => ?_) (fun r2 _ => ?_)
  ·exact aN rfl
  ·refine lQp eX pY (pC _ _) (fun e5 _ => ?_) (fun r4 _ => ?_)
   ·exact aN rfl
   ·exact aN rfl
end Te
end PX
