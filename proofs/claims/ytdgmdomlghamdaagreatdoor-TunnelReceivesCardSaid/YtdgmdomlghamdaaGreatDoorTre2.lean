import Derived.Test.YtdgmdomlghamdaaGreatDoorTre1
set_option linter.unusedVariables false
set_option linter.unusedSimpArgs false
set_option maxRecDepth 100000
noncomputable section
namespace PX
open Go
open Md
namespace Te
noncomputable def asT (L : cD) (κ : Tau) (a0 a1 : List D) : Res := rl L κ 30 0 [1, 1, 1, 0] (bQ [(2, .ptr 1000000000 0), (3, .ptr 1000000001 0)] [⟨53, (List.map AV.d a0)⟩, ⟨53, (List.map AV.d a1)⟩] [] [] [])
noncomputable def asy (L : cD) (κ : Tau) (a0 a1 : List D) : Res := rl L κ 30 0 [1, 1, 0, 0] (bQ [(2, .ptr 1000000000 0), (3, .ptr 1000000001 0)] [⟨53, (List.map AV.d a0)⟩, ⟨53, (List.map AV.d a1)⟩] [] [] [])
theorem T30 (κ : Tau) (p0 p1 : aA) : bdy κ 30 [aA.av p0, aA.av p1] [] [] =
 cond (p0.Kind != p1.Kind) (
 (rB false)) (
 cond (p0.ID != p1.ID) (
 (rB false)) (
 cond (p0.Dup != p1.Dup) (
 (rB false)) (
 κ.t 47 packet_is_out [aF.av p0.Message, aF.av p1.Message] [] [] fun r0 =>
 cond (!r0) (
 (rB false)) (
 cond (!(p0.Client == p1.Client)) (
 (rB false)) (
 cond (!(p0.User == p1.User)) (
 (rB false)) (
 asy lab κ (aA.enc p0) (aA.enc p1))))))) := by kernel_rfl
theorem azO (κ : Tau) (b0 b1 : aA) : asT cA κ (aA.enc b0) (aA.enc b1) =
 cond (b0.Present == b1.Present) (
 cond (b0.Code == b1.Code) (
  κ.t 49 packet_is_out [.d (.sl aG.ks (List.map aG.enc b0.Subs)), .d (.sl aG.ks (List.map aG.enc b1.Subs))] [] [] fun r2 =>
  cond r2 (
  κ.t 50 packet_is_out [.d (.sl [.str] (List.map aZ b0.Filters)), .d (.sl [.str] (List.map aZ b1.Filters))] [] [] fun r3 =>
  cond r3 (
   κ.t 51 packet_is_out [.d (.sl [.int .i64] (List.map eI b0.Codes)), .d (.sl [.int .i64] (List.map eI b1.Codes))] [] [] fun r4 =>
   (rB r4)) (
  (rB false))) (
  (rB false))) (
 (rB false))) (
 (rB false)) := by kernel_rfl
theorem azz (κ : Tau) (b0 b1 : aA) : asy cA κ (aA.enc b0) (aA.enc b1) =
 cond (b0.Clean != b1.Clean) (
 (rB false)) (
 cond (b0.Keep != b1.Keep) (
 (rB false)) (
 cond (b0.Expiry != b1.Expiry) (
 (rB false)) (
 cond (b0.Window != b1.Window) (
 (rB false)) (
 κ.t 48 packet_is_out [aV.av b0.Will, aV.av b1.Will] [] [] fun r1 =>
 cond (!r1) (
 (rB false)) (
 asT lab κ (aA.enc b0) (aA.enc b1)))))) := by kernel_rfl
theorem afK (b0 b1 : aA) : Le (Option.map packet_is_out (sI b0 b1)) (asT lab (kF 30) (aA.enc b0) (aA.enc b1)) := by
 refine bR (azO _ b0 b1) ?_
 unfold sI
 repeat' first | (with_reducible first | refine lC ?_ ?_ | refine lQ eX packet_is_inj ?_ fun _ _ => ?_ | refine lQ eX packet_is_inj ?_ fun _ _ => ?_ | refine lQ eX packet_is_inj ?_ fun _ _ => ?_ | exact aeR _ _ | exact ais _ _ | exact acV _ _ | refine aN ?_) | rfl | (simp only [EN, packet_is_out] <;> rfl)
theorem af0 (b0 b1 : aA) : Le (Option.map packet_is_out (sF b0 b1)) (asy lab (kF 30) (aA.enc b0) (aA.enc b1)) := by
 refine bR (azz _ b0 b1) ?_
 unfold sF
 repeat' first | (with_reducible first | refine lC ?_ ?_ | refine lQ eX packet_is_inj ?_ fun _ _ => ?_ | exact aeW _ _ | exact afK _ _ | refine aN ?_) | rfl | (simp only [EN, packet_is_out] <;> rfl)
theorem wS (p0 p1 : aA) : Le (Option.map packet_is_out (oO p0 p1)) (aY SE 30 [aA.av p0, aA.av p1] [] []) := by
 refine bD (T30 _ p0 p1) ?_
 unfold oO
 repeat' first | (with_reducible first | refine lC ?_ ?_ | refine lQ eX packet_is_inj ?_ fun _ _ => ?_ | exact wR _ _ | exact af0 _ _ | refine aN ?_) | rfl | (simp only [EN, packet_is_out] <;> rfl)
theorem aB1 (κ : Tau) (p0 : Int) : bdy κ 106 [.d (.int .u8 p0)] [] [] =
 cond (decide (p0 ≥ 97)) (
 (rB (decide (p0 ≤ 122)))) (
 (rB false)) := by kernel_rfl
theorem abr (p0 : Int) : Le (Option.map packet_is_out (nY p0)) (aY SE 106 [.d (.int .u8 p0)] [] []) := by
 refine bD (aB1 _ p0) ?_
 unfold nY
 refine lC ?_ ?_
 ·exact aN rfl
 ·exact aN rfl
theorem aCb (κ : Tau) (p0 : Int) : bdy κ 107 [.d (.int .u8 p0)] [] [] =
 cond (decide (p0 ≥ 48)) (
 (rB (decide (p0 ≤ 57)))) (
 (rB false)) := by kernel_rfl
theorem ahA (p0 : Int) : Le (Option.map packet_is_out (qJ p0)) (aY SE 107 [.d (.int .u8 p0)] [] []) := by
 refine bD (aCb _ p0) ?_
 unfold qJ
 refine lC ?_ ?_
 ·exact aN rfl
 ·exact aN rfl
noncomputable def akh (L : cD) (κ : Tau) (a0 : Str) (a1 : Int) : Res := rl L κ 80 0 [1, 1, 0, 1, 0] (bQ [(0, dSq a0), (3, dIq a1)] [] [] [] [])
noncomputable def atc (L : cD) (κ : Tau) (a0 : Str) : Res := rl L κ 80 0 [1, 1, 0, 0] (bQ [(0, dSq a0)] [] [] [] [])
theorem T80 (κ : Tau) (p0 : Str) : bdy κ 80 [dSq p0] [] [] =
 cond (decide ((List.length p0 : Int) < 1)) (
 (rB false)) (
 cond (decide ((List.length p0 : Int) > 16)) (
 (rB false)) (
 cond (decide (0 ≤ 0) && decide (0 < (List.length p0 : Int))) (
 κ.t 106 packet_is_out [.d (.int .u8 (UInt8.toNat (List.getD p0 (Int.toNat 0) 0) : Int))] [] [] fun r0 =>
 cond (!r0) (
  (rB false)) (
 atc lab κ p0)) none)) := by kernel_rfl
theorem az4 (κ : Tau) (x0 : Str) (x3 : Int) : akh cA κ x0 x3 =
 cond (decide (x3 < (List.length x0 : Int))) (
 cond (iB x3 (List.length x0 : Int)) (
  κ.t 106 packet_is_out [.d (.int .u8 (UInt8.toNat (List.getD x0 (Int.toNat x3) 0) : Int))] [] [] fun r1 =>
  cond (!r1) (
  cond (iB x3 (List.length x0 : Int)) (
   κ.t 107 packet_is_out [.d (.int .u8 (UInt8.toNat (List.getD x0 (Int.toNat x3) 0) : Int))] [] [] fun r2 =>
   cond (!r2) (
   cond (iB x3 (List.length x0 : Int)) (
    cond ((UInt8.toNat (List.getD x0 (Int.toNat x3) 0) : Int) != 45) (
    (rB false)) (
    akh lab κ x0 (w6 (x3 + 1)))) none) (
   akh lab κ x0 (w6 (x3 + 1)))) none) (
  akh lab κ x0 (w6 (x3 + 1)))) none) (
 (rB true)) := by kernel_rfl
theorem az9 (κ : Tau) (x0 : Str) : atc cA κ x0 =
 akh lab κ x0 0 := by kernel_rfl
theorem afS : ∀ (fu : Nat) (x0 : Str) (x3 : Int), Le (Option.map packet_is_out (gS fu x0 x3)) (akh lab (kF 80) x0 x3) := by
 intro fu
 induction fu with
 | zero => intros; exact le_none
 | succ fu ih =>
  intro x0 x3
  refine bR (az4 _ x0 x3) ?_
  unfold gS
  repeat' first | (with_reducible first | refine lF ?_ | refine lC ?_ ?_ | refine lQ eX packet_is_inj ?_ fun _ _ => ?_ | refine lQ eX packet_is_inj ?_ fun _ _ => ?_ | exact abr _ | exact ahA _ | exact ih _ _ | refine aN ?_) | rfl | (simp only [EN, packet_is_out] <;> rfl)
theorem agj (x0 : Str) : Le (Option.map packet_is_out (sJ x0)) (atc lab (kF 80) x0) := by
 refine bR (az9 _ x0) ?_
 unfold sJ
 exact afS fuel x0 0
theorem sH (p0 : Str) : Le (Option.map packet_is_out (iJ p0)) (aY SE 80 [dSq p0] [] []) := by
 refine bD (T80 _ p0) ?_
 unfold iJ
 refine lC ?_ ?_
 ·exact aN rfl
 ·refine lC ?_ ?_
  ·exact aN rfl
  ·refine lF ?_
   refine lQ eX packet_is_inj (abr _) fun r0 _ => ?_
   refine lC ?_ ?_
   ·exact aN rfl
   ·exact agj p0
noncomputable def alZ (L : cD) (κ : Tau) (a0 : Str) (a1 a2 : Int) : Res := rl L κ 129 0 [1, 0, 1, 0] (bQ [(0, dSq a0), (1, .d (.int .u8 a1)), (5, dIq a2)] [] [] [] [])
theorem aAN (κ : Tau) (p0 : Str) (p1 : Int) : bdy κ 129 [dSq p0, .d (.int .u8 p1)] [] [] =
 alZ lab κ p0 p1 0 := by kernel_rfl
theorem ax1 (κ : Tau) (x0 : Str) (x1 x5 : Int) : alZ cA κ x0 x1 x5 =
 cond (decide (x5 < (List.length x0 : Int))) (
 cond (iB x5 (List.length x0 : Int)) (
  cond ((UInt8.toNat (List.getD x0 (Int.toNat x5) 0) : Int) == x1) (
  (rB true)) (
  alZ lab κ x0 x1 (w6 (x5 + 1)))) none) (
 (rB false)) := by kernel_rfl
theorem ag1 : ∀ (fu : Nat) (x0 : Str) (x1 x5 : Int), Le (Option.map packet_is_out (kJ fu x0 x1 x5)) (alZ lab (kF 129) x0 x1 x5) := by
 intro fu
 induction fu with
 | zero => intros; exact le_none
 | succ fu ih =>
  intro x0 x1 x5
  refine bR (ax1 _ x0 x1 x5) ?_
  unfold kJ
  refine lC ?_ ?_
  ·refine lF ?_
   refine lC ?_ ?_
   ·exact aN rfl
   ·exact ih x0 x1 (w6 (x5 + 1))
  ·exact aN rfl
theorem kE (p0 : Str) (p1 : Int) : Le (Option.map packet_is_out (jZ p0 p1)) (aY SE 129 [dSq p0, .d (.int .u8 p1)] [] []) := by
 refine bD (aAN _ p0 p1) ?_
 unfold jZ
 exact ag1 fuel p0 p1 0
noncomputable def ai3 (L : cD) (κ : Tau) (a0 : Str) (a1 a2 : Int) (a3 : List (List D)) : Res := rl L κ 131 0 [1, 1, 1, 0, 1, 0] (bQ [(0, dSq a0), (3, .row 3003), (4, dIq a1), (5, dIq a2)] [] [] [] [(3003, ⟨[.str], 9, 16, a3⟩)])
theorem aA5 (κ : Tau) (p0 : Str) : bdy κ 131 [dSq p0] [] [] =
 ai3 lab κ p0 0 0 (List.map aZ []) := by kernel_rfl
theorem axR (κ : Tau) (x0 : Str) (x4 x5 : Int) (w3003 : List Str) : ai3 cA κ x0 x4 x5 (List.map aZ w3003) =
 cond (decide (x5 < (List.length x0 : Int))) (
 cond (iB x5 (List.length x0 : Int)) (
  cond ((UInt8.toNat (List.getD x0 (Int.toNat x5) 0) : Int) == 47) (
  cond (decide (0 ≤ x5) && decide (x5 ≤ ((List.length x0) : Int))) (
   cond (decide (0 ≤ x4) && decide (x4 ≤ x5)) (
   cond (decide ((lM aZ w3003 + lM aZ [(cF x0 (some x4) (some x5))]) * 16 ≤ 140737488355328)) (
    ai3 lab κ x0 (w6 (x5 + 1)) (w6 (x5 + 1)) (((List.map aZ w3003) ++ (List.map aZ [(cF x0 (some x4) (some x5))])))) none) none) none) (
  ai3 lab κ x0 x4 (w6 (x5 + 1)) (List.map aZ w3003))) none) (
 cond (decide (0 ≤ x4) && decide (x4 ≤ ((List.length x0) : Int))) (
 cond (decide ((lM aZ w3003 + lM aZ [(cF x0 (some x4) none)]) * 16 ≤ 140737488355328)) (
  (some (.ret [.row 0] [] [⟨[.str], 9, 16, ((List.map aZ w3003) ++ (List.map aZ [(cF x0 (some x4) none)]))⟩]))) none) none) := by kernel_rfl
theorem aey : ∀ (fu : Nat) (x0 : Str) (x4 x5 : Int) (w3003 : List Str), Le (Option.map gF (gV fu x0 x4 x5 w3003)) (ai3 lab (kF 131) x0 x4 x5 (List.map aZ w3003)) := by
 intro fu
 induction fu with
 | zero => intros; exact le_none
 | succ fu ih =>
  intro x0 x4 x5 w3003
  refine bR (axR _ x0 x4 x5 w3003) ?_
  unfold gV
  repeat' first | (with_reducible first | refine lF ?_ | refine lC ?_ ?_ | refine lG ?_ ?_ | exact ih _ _ _ _ | refine aN ?_) | rfl | (simp only [EN]; done) | (simp only [EN]; exact ih _ _ _ _) | (simp only [EN, gF] <;> rfl)
theorem aaH (p0 : Str) : Le (Option.map gF (o5 p0)) (aY SE 131 [dSq p0] [] []) := by
 refine bD (aA5 _ p0) ?_
 unfold o5
 (try simp only [EN]); exact aey fuel p0 0 0 []
theorem aA1 (κ : Tau) (p0 : Str) : bdy κ 128 [dSq p0] [] [] =
 cond (decide ((List.length p0 : Int) ≥ 1)) (
 cond (decide ((List.length p0 : Int) ≤ 64)) (
  κ.t 129 packet_is_out [dSq p0, .d (.int .u8 0)] [] [] fun r0 =>
  cond (!r0) (
  κ.t 131 gF [dSq p0] [] [] fun r1 =>
  (rB (decide ((lM aZ r1 : Int) ≤ 8)))) (
  (rB false))) (
 (rB false))) (
 (rB false)) := by kernel_rfl
theorem abq (p0 : Str) : Le (Option.map packet_is_out (nX p0)) (aY SE 128 [dSq p0] [] []) := by
 refine bD (aA1 _ p0) ?_
 unfold nX
 repeat' first | (with_reducible first | refine lC ?_ ?_ | refine lQ eX packet_is_inj ?_ fun _ _ => ?_ | refine lQ eX zI ?_ fun _ _ => ?_ | exact kE _ _ | exact aaH _ | refine aN ?_) | rfl | (simp only [EN, packet_is_out] <;> rfl)
theorem aBj (κ : Tau) (p0 : Str) : bdy κ 108 [dSq p0] [] [] =
 κ.t 128 packet_is_out [dSq p0] [] [] fun r0 =>
 cond r0 (
 κ.t 129 packet_is_out [dSq p0, .d (.int .u8 43)] [] [] fun r1 =>
 cond (!r1) (
  κ.t 129 packet_is_out [dSq p0, .d (.int .u8 35)] [] [] fun r2 =>
  (rB (!r2))) (
 (rB false))) (
 (rB false)) := by kernel_rfl
theorem ahT (p0 : Str) : Le (Option.map packet_is_out (qF p0)) (aY SE 108 [dSq p0] [] []) := by
 refine bD (aBj _ p0) ?_
 unfold qF
 refine lQ eX packet_is_inj (abq _) fun r0 _ => ?_
 refine lC ?_ ?_
 ·refine lQ eX packet_is_inj (kE _ _) fun r1 _ => ?_
  refine lC ?_ ?_
  ·refine lQ eX packet_is_inj (kE _ _) fun r2 _ => ?_
   exact aN rfl
  ·exact aN rfl
 ·exact aN rfl
noncomputable def aac (L : cD) (κ : Tau) (a0 : Str) (a1 : Int) : Res := rl L κ 130 0 [1, 1, 0, 1, 0] (bQ [(0, dSq a0), (3, dIq a1)] [] [] [] [])
noncomputable def apL (L : cD) (κ : Tau) (a0 : Str) : Res := rl L κ 130 0 [1, 1, 0, 0] (bQ [(0, dSq a0)] [] [] [] [])
theorem aB7 (κ : Tau) (p0 : Str) : bdy κ 130 [dSq p0] [] [] =
 cond (decide ((List.length p0 : Int) < 1)) (
 (rB false)) (
 cond (decide ((List.length p0 : Int) > 16)) (
 (rB false)) (
 apL lab κ p0)) := by kernel_rfl
theorem ay2 (κ : Tau) (x0 : Str) (x3 : Int) : aac cA κ x0 x3 =
 cond (decide (x3 < (List.length x0 : Int))) (
 cond (iB x3 (List.length x0 : Int)) (
  cond (decide ((UInt8.toNat (List.getD x0 (Int.toNat x3) 0) : Int) ≥ 97)) (
  cond (!(decide ((UInt8.toNat (List.getD x0 (Int.toNat x3) 0) : Int) ≤ 122))) (
   cond (decide ((UInt8.toNat (List.getD x0 (Int.toNat x3) 0) : Int) ≥ 48)) (
   cond (!(decide ((UInt8.toNat (List.getD x0 (Int.toNat x3) 0) : Int) ≤ 57))) (
    cond ((UInt8.toNat (List.getD x0 (Int.toNat x3) 0) : Int) != 45) (
    (rB false)) (
    aac lab κ x0 (w6 (x3 + 1)))) (
   aac lab κ x0 (w6 (x3 + 1)))) (
   cond ((UInt8.toNat (List.getD x0 (Int.toNat x3) 0) : Int) != 45) (
   (rB false)) (
   aac lab κ x0 (w6 (x3 + 1))))) (
  aac lab κ x0 (w6 (x3 + 1)))) (
  cond (decide ((UInt8.toNat (List.getD x0 (Int.toNat x3) 0) : Int) ≥ 48)) (
  cond (!(decide ((UInt8.toNat (List.getD x0 (Int.toNat x3) 0) : Int) ≤ 57))) (
   cond ((UInt8.toNat (List.getD x0 (Int.toNat x3) 0) : Int) != 45) (
   (rB false)) (
   aac lab κ x0 (w6 (x3 + 1)))) (
  aac lab κ x0 (w6 (x3 + 1)))) (
  cond ((UInt8.toNat (List.getD x0 (Int.toNat x3) 0) : Int) != 45) (
  (rB false)) (
  aac lab κ x0 (w6 (x3 + 1)))))) none) (
 (rB true)) := by kernel_rfl
theorem axU (κ : Tau) (x0 : Str) : apL cA κ x0 =
 aac lab κ x0 0 := by kernel_rfl
theorem ag2 : ∀ (fu : Nat) (x0 : Str) (x3 : Int), Le (Option.map packet_is_out (eG fu x0 x3)) (aac lab (kF 130) x0 x3) := by
 intro fu
 induction fu with
 | zero => intros; exact le_none
 | succ fu ih =>
  intro x0 x3
  refine bR (ay2 _ x0 x3) ?_
  unfold eG
  repeat' first | (with_reducible first | refine lF ?_ | refine lC ?_ ?_ | exact ih _ _ | refine aN ?_) | rfl | (simp only [EN, packet_is_out] <;> rfl)
theorem agp (x0 : Str) : Le (Option.map packet_is_out (sZ x0)) (apL lab (kF 130) x0) := by
 refine bR (axU _ x0) ?_
 unfold sZ
 exact ag2 fuel x0 0
theorem acy (p0 : Str) : Le (Option.map packet_is_out (tC p0)) (aY SE 130 [dSq p0] [] []) := by
 refine bD (aB7 _ p0) ?_
 unfold tC
 refine lC ?_ ?_
 ·exact aN rfl
 ·refine lC ?_ ?_
  ·exact aN rfl
  ·exact agp p0
noncomputable def ajP (L : cD) (κ : Tau) (a0 : List (List D)) (a1 : Int) : Res := rl L κ 109 0 [1, 1, 0, 1, 0] (bQ [(0, .d (.sl aE.ks a0)), (3, dIq a1)] [] [] [] [])
theorem aB0 (κ : Tau) (p0 : List aE) : bdy κ 109 [.d (.sl aE.ks (List.map aE.enc p0))] [] [] =
 cond (decide ((lM aE.enc p0 : Int) > 8)) (
 (rI 5)) (
 ajP lab κ (List.map aE.enc p0) 0) := by kernel_rfl
theorem axO (κ : Tau) (x0 : List aE) (x3 : Int) : ajP cA κ (List.map aE.enc x0) x3 =
 cond (decide (x3 < (lM aE.enc x0 : Int))) (
 cond (iB x3 (lM aE.enc x0 : Int)) (
  κ.t 130 packet_is_out [dSq (bM (cE aE.enc x0 x3 0))] [] [] fun r0 =>
  cond (!r0) (
  (rI 16)) (
  cond (iB x3 (lM aE.enc x0 : Int)) (
  cond (decide ((List.length (bM (cE aE.enc x0 x3 1)) : Int) > 160)) (
   (rI 5)) (
  cond (decide (x3 > 0)) (
   cond (iB x3 (lM aE.enc x0 : Int)) (
   cond (iB (w6 (x3 - 1)) (lM aE.enc x0 : Int)) (
    cond (Op.bytesLess (bM (cE aE.enc x0 x3 0)) (bM (cE aE.enc x0 (w6 (x3 - 1)) 0)) || (bM (cE aE.enc x0 x3 0)) == (bM (cE aE.enc x0 (w6 (x3 - 1)) 0))) (
    (rI 16)) (
    ajP lab κ (List.map aE.enc x0) (w6 (x3 + 1)))) none) none) (
  ajP lab κ (List.map aE.enc x0) (w6 (x3 + 1))))) none)) none) (
 (rI 0)) := by kernel_rfl
theorem ae0 : ∀ (fu : Nat) (x0 : List aE) (x3 : Int), Le (Option.map aH (iE fu x0 x3)) (ajP lab (kF 109) (List.map aE.enc x0) x3) := by
 intro fu
 induction fu with
 | zero => intros; exact le_none
 | succ fu ih =>
  intro x0 x3
  refine bR (axO _ x0 x3) ?_
  unfold iE
  repeat' first | (with_reducible first | refine lC ?_ ?_ | refine lQ eX packet_is_inj ?_ fun _ _ => ?_ | refine lG ?_ ?_ | refine lD ?_ ?_ ?_ | exact acy _ | exact ih _ _ | refine aN ?_) | rfl | (simp only [EN]; done) | (simp only [EN]; exact acy _) | (simp only [EN, aH] <;> rfl)
theorem ahV (p0 : List aE) : Le (Option.map aH (qI p0)) (aY SE 109 [.d (.sl aE.ks (List.map aE.enc p0))] [] []) := by
 refine bD (aB0 _ p0) ?_
 unfold qI
 refine lDe ?_ ?_
 ·exact aN rfl
 ·exact ae0 fuel p0 0
noncomputable def al2 (L : cD) (κ : Tau) (a0 : List D) : Res := rl L κ 82 0 [1, 1, 1, 1, 1, 1, 0, 0] (bQ [(1, .ptr 1000000000 0)] [⟨47, (List.map AV.d a0)⟩] [] [] [])
noncomputable def atD (L : cD) (κ : Tau) (a0 : List D) : Res := rl L κ 82 0 [1, 1, 1, 1, 1, 0, 0] (bQ [(1, .ptr 1000000000 0)] [⟨47, (List.map AV.d a0)⟩] [] [] [])
noncomputable def atq (L : cD) (κ : Tau) (a0 : List D) : Res := rl L κ 82 0 [1, 1, 1, 1, 0, 0] (bQ [(1, .ptr 1000000000 0)] [⟨47, (List.map AV.d a0)⟩] [] [] [])
theorem T82 (κ : Tau) (p0 : aF) : bdy κ 82 [aF.av p0] [] [] =
 κ.t 108 packet_is_out [dSq p0.Topic] [] [] fun r0 =>
 cond (!r0) (
 (rI 12)) (
 cond (decide ((List.length p0.Payload : Int) > 256)) (
 (rI 5)) (
 cond (decide (p0.Level < 0)) (
 (rI 14)) (
 cond (decide (p0.Level > 2)) (
 (rI 14)) (
 atq lab κ (aF.enc p0))))) := by kernel_rfl
theorem ax6 (κ : Tau) (b0 : aF) : al2 cA κ (aF.enc b0) =
 cond (decide (b0.Seq < 0)) (
 (rI 1)) (
 cond (decide (b0.Seq > 1099511627776)) (
 (rI 1)) (
 κ.t 109 aH [.d (.sl aE.ks (List.map aE.enc b0.Props))] [] [] fun r2 =>
 (rI r2))) := by kernel_rfl
theorem aze (κ : Tau) (b0 : aF) : atD cA κ (aF.enc b0) =
 cond (!(b0.From == ([] : Str))) (
 κ.t 80 packet_is_out [dSq b0.From] [] [] fun r1 =>
 cond (!r1) (
  (rI 11)) (
 al2 lab κ (aF.enc b0))) (
 al2 lab κ (aF.enc b0)) := by kernel_rfl
theorem azn (κ : Tau) (b0 : aF) : atq cA κ (aF.enc b0) =
 cond (decide (b0.Priority < 0)) (
 (rI 1)) (
 cond (decide (b0.Priority > 9)) (
 (rI 1)) (
 cond (decide (b0.Expires < 0)) (
 (rI 1)) (
 cond (decide (b0.Expires > 1099511627776)) (
 (rI 1)) (
 atD lab κ (aF.enc b0))))) := by kernel_rfl
theorem yD (b0 : aF) : Le (Option.map aH (j6 b0)) (al2 lab (kF 82) (aF.enc b0)) := by
 refine bR (ax6 _ b0) ?_
 unfold j6
 refine lC ?_ ?_
 ·exact aN rfl
 ·refine lC ?_ ?_
  ·exact aN rfl
  ·refine lQ eX bA (ahV _) fun r2 _ => ?_
   exact aN rfl
theorem aeV (b0 : aF) : Le (Option.map aH (nF b0)) (atD lab (kF 82) (aF.enc b0)) := by
 refine bR (aze _ b0) ?_
 unfold nF
 refine lC ?_ ?_
 ·refine lQ eX packet_is_inj (sH _) fun r1 _ => ?_
  refine lC ?_ ?_
  ·exact aN rfl
  ·exact yD b0
 ·exact yD b0
theorem aeT (b0 : aF) : Le (Option.map aH (nH b0)) (atq lab (kF 82) (aF.enc b0)) := by
 refine bR (azn _ b0) ?_
 unfold nH
 refine lC ?_ ?_
 ·exact aN rfl
 ·refine lC ?_ ?_
  ·exact aN rfl
  ·refine lC ?_ ?_
   ·exact aN rfl
   ·refine lC ?_ ?_
    ·exact aN rfl
    ·exact aeV b0
theorem abi (p0 : aF) : Le (Option.map aH (jU p0)) (aY SE 82 [aF.av p0] [] []) := by
 refine bD (T82 _ p0) ?_
 unfold jU
 refine lQ eX packet_is_inj (ahT _) fun r0 _ => ?_
 refine lC ?_ ?_
 ·exact aN rfl
 ·refine lC ?_ ?_
  ·exact aN rfl
  ·refine lC ?_ ?_
   ·exact aN rfl
   ·refine lC ?_ ?_
    ·exact aN rfl
    ·exact aeT p0
theorem T81 (κ : Tau) (p0 : aV) : bdy κ 81 [aV.av p0] [] [] =
 cond (!p0.Set) (
 cond (p0.Delay != 0) (
  (rI 28)) (
 κ.t 47 packet_is_out [aF.av p0.Message, .agg [dSq [], dSq [], dIq 0, dBq false, dIq 0, dIq 0, dSq [], dIq 0, .d (.sl aE.ks (List.map aE.enc []))]] [] [] fun r0 =>
 cond (!r0) (
  (rI 28)) (
 (rI 0)))) (
 cond (decide (p0.Delay < 0)) (
 (rI 1)) (
 cond (decide (p0.Delay > 1099511627776)) (
 (rI 1)) (
 κ.t 82 aH [aF.av p0.Message] [] [] fun r1 =>
 (rI r1)))) := by kernel_rfl
theorem aiv (p0 : aV) : Le (Option.map aH (sD p0)) (aY SE 81 [aV.av p0] [] []) := by
 refine bD (T81 _ p0) ?_
 unfold sD
 refine lC ?_ ?_
 ·refine lC ?_ ?_
  ·exact aN rfl
  ·refine lQ eX packet_is_inj (by (try simp only [EN]); exact wR p0.Message (zMq)) fun r0 _ => ?_
   refine lC ?_ ?_
   ·exact aN rfl
   ·exact aN rfl
 ·refine lC ?_ ?_
  ·exact aN rfl
  ·refine lC ?_ ?_
   ·exact aN rfl
   ·refine lQ eX bA (abi _) fun r1 _ => ?_
    exact aN rfl
noncomputable def apc (L : cD) (κ : Tau) (a0 : List D) : Res := rl L κ 53 0 [1, 1, 0, 0] (bQ [(1, .ptr 1000000000 0)] [⟨53, (List.map AV.d a0)⟩] [] [] [])
theorem T53 (κ : Tau) (p0 : aA) : bdy κ 53 [aA.av p0] [] [] =
 κ.t 80 packet_is_out [dSq p0.Client] [] [] fun r0 =>
 cond (!r0) (
 (rI 11)) (
 cond (!(p0.User == ([] : Str))) (
 κ.t 80 packet_is_out [dSq p0.User] [] [] fun r1 =>
 cond (!r1) (
  (rI 11)) (
 apc lab κ (aA.enc p0))) (
 apc lab κ (aA.enc p0))) := by kernel_rfl
theorem azg (κ : Tau) (b0 : aA) : apc cA κ (aA.enc b0) =
 cond (decide (b0.Keep < 0)) (
 (rI 1)) (
 cond (decide (b0.Keep > 1099511627776)) (
 (rI 1)) (
 cond (decide (b0.Expiry < 0)) (
 (rI 1)) (
 cond (decide (b0.Expiry > 1099511627776)) (
 (rI 1)) (
 cond (decide (b0.Window < 1)) (
 (rI 1)) (
 cond (decide (b0.Window > 32)) (
 (rI 1)) (
 κ.t 81 aH [aV.av b0.Will] [] [] fun r2 =>
 (rI r2))))))) := by kernel_rfl
theorem xC (b0 : aA) : Le (Option.map aH (lN b0)) (apc lab (kF 53) (aA.enc b0)) := by
 refine bR (azg _ b0) ?_
 unfold lN
 repeat' first | (with_reducible first | refine lC ?_ ?_ | refine lQ eX bA ?_ fun _ _ => ?_ | exact aiv _ | refine aN ?_) | rfl | (simp only [EN, aH] <;> rfl)
theorem afM (p0 : aA) : Le (Option.map aH (oC p0)) (aY SE 53 [aA.av p0] [] []) := by
 refine bD (T53 _ p0) ?_
 unfold oC
 repeat' first | (with_reducible first | refine lC ?_ ?_ | refine lQ eX packet_is_inj ?_ fun _ _ => ?_ | exact sH _ | exact xC _ | refine aN ?_) | rfl | (simp only [EN, aH] <;> rfl)
theorem T56 (κ : Tau) (p0 : Int) : bdy κ 56 [dIq p0] [] [] =
 cond (decide (p0 < 1)) (
 (rI 15)) (
 cond (decide (p0 > 65535)) (
 (rI 15)) (
 (rI 0))) := by kernel_rfl
theorem abf (p0 : Int) : Le (Option.map aH (nS p0)) (aY SE 56 [dIq p0] [] []) := by
 refine bD (T56 _ p0) ?_
 unfold nS
 refine lC ?_ ?_
 ·exact aN rfl
 ·refine lC ?_ ?_
  ·exact aN rfl
  ·exact aN rfl
theorem T54 (κ : Tau) (p0 : aA) : bdy κ 54 [aA.av p0] [] [] =
 κ.t 82 aH [aF.av p0.Message] [] [] fun r0 =>
 cond (r0 != 0) (
 (rI r0)) (
 cond (p0.Message.Level == 0) (
 cond (p0.ID != 0) (
  (rI 15)) (
 cond p0.Dup (
  (rI 28)) (
 (rI 0)))) (
 κ.t 56 aH [dIq p0.ID] [] [] fun r1 =>
 (rI r1))) := by kernel_rfl
theorem afT (p0 : aA) : Le (Option.map aH (oE p0)) (aY SE 54 [aA.av p0] [] []) := by
 refine bD (T54 _ p0) ?_
 unfold oE
 refine lQ eX bA (abi _) fun r0 _ => ?_
 refine lC ?_ ?_
 ·exact aN rfl
 ·refine lC ?_ ?_
  ·refine lC ?_ ?_
   ·exact aN rfl
   ·refine lC ?_ ?_
    ·exact aN rfl
    ·exact aN rfl
  ·refine lQ eX bA (abf _) fun r1 _ => ?_
   exact aN rfl
theorem T55 (κ : Tau) (p0 : Int) : bdy κ 55 [dIq p0] [] [] =
 cond (decide (p0 ≥ 0)) (
 (rB (decide (p0 ≤ 29)))) (
 (rB false)) := by kernel_rfl
theorem abC (p0 : Int) : Le (Option.map packet_is_out (lZ p0)) (aY SE 55 [dIq p0] [] []) := by
 refine bD (T55 _ p0) ?_
 unfold lZ
 refine lC ?_ ?_
 ·exact aN rfl
 ·exact aN rfl
theorem T57 (κ : Tau) (p0 : Int) : bdy κ 57 [dIq p0] [] [] =
 cond (p0 == 0) (
 (rI 1)) (
 cond (decide (p0 > 32)) (
 (rI 5)) (
 (rI 0))) := by kernel_rfl
theorem abg (p0 : Int) : Le (Option.map aH (qE p0)) (aY SE 57 [dIq p0] [] []) := by
 refine bD (T57 _ p0) ?_
 unfold qE
 refine lC ?_ ?_
 ·exact aN rfl
 ·refine lC ?_ ?_
  ·exact aN rfl
  ·exact aN rfl
theorem aBp (κ : Tau) (p0 p1 : Str) : bdy κ 112 [dSq p0, dSq p1] [] [] =
 cond (decide ((List.length p0 : Int) ≥ (List.length p1 : Int))) (
 cond (decide (0 ≤ (List.length p1 : Int)) && decide ((List.length p1 : Int) ≤ ((List.length p0) : Int))) (
  (rB ((cF p0 none (some (List.length p1 : Int))) == p1))) none) (
 (rB false)) := by kernel_rfl
theorem uT (p0 p1 : Str) : Le (Option.map packet_is_out (mF p0 p1)) (aY SE 112 [dSq p0, dSq p1] [] []) := by
 refine bD (aBp _ p0 p1) ?_
 unfold mF
 refine lC ?_ ?_
 ·refine lF ?_
  exact aN rfl
 ·exact aN rfl
noncomputable def ani (L : cD) (κ : Tau) (a0 : Int) (a1 : List (List D)) : Res := rl L κ 111 0 [1, 1, 1, 0, 1, 0, 0, 1, 0, 0, 1, 0] (bQ [(3, .row 3003), (4, dIq a0)] [] [] [] [(3003, ⟨[.str], 9, 16, a1⟩)])
noncomputable def ag9 (L : cD) (κ : Tau) (a0 : Int) (a1 : List (List D)) : Res := rl L κ 111 0 [1, 1, 1, 0, 1, 0] (bQ [(3, .row 3003), (4, dIq a0)] [] [] [] [(3003, ⟨[.str], 9, 16, a1⟩)])
theorem aBH (κ : Tau) (p0 : Str) : bdy κ 111 [dSq p0] [] [] =
 κ.t 128 packet_is_out [dSq p0] [] [] fun r0 =>
 cond (!r0) (
 (rB false)) (
 κ.t 131 gF [dSq p0] [] [] fun r1 =>
 ag9 lab κ 0 (List.map aZ r1)) := by kernel_rfl
theorem axB (κ : Tau) (x4 : Int) (w3003 : List Str) : ani cA κ x4 (List.map aZ w3003) =
 cond (iB x4 (lM aZ w3003 : Int)) (
 κ.t 129 packet_is_out [dSq (bM (cE aZ w3003 x4 0)), .d (.int .u8 35)] [] [] fun r3 =>
 cond r3 (
  cond (iB x4 (lM aZ w3003 : Int)) (
  cond (!((bM (cE aZ w3003 x4 0)) == ([35] : Str))) (
   (rB false)) (
  cond (x4 != (w6 ((lM aZ w3003 : Int) - 1))) (
   (rB false)) (
  ag9 lab κ (w6 (x4 + 1)) (List.map aZ w3003)))) none) (
 ag9 lab κ (w6 (x4 + 1)) (List.map aZ w3003))) none := by kernel_rfl
theorem aye (κ : Tau) (x4 : Int) (w3003 : List Str) : ag9 cA κ x4 (List.map aZ w3003) =
 cond (decide (x4 < (lM aZ w3003 : Int))) (
 cond (iB x4 (lM aZ w3003 : Int)) (
  κ.t 129 packet_is_out [dSq (bM (cE aZ w3003 x4 0)), .d (.int .u8 43)] [] [] fun r2 =>
  cond r2 (
  cond (iB x4 (lM aZ w3003 : Int)) (
   cond (!((bM (cE aZ w3003 x4 0)) == ([43] : Str))) (
   (rB false)) (
   ani lab κ x4 (List.map aZ w3003))) none) (
  ani lab κ x4 (List.map aZ w3003))) none) (
 (rB true)) := by kernel_rfl
theorem adM (k5 : Int → (List Str) → Option (Bool)) (hk5 : ∀ (x4 : Int) (w3003 : List Str), Le (Option.map packet_is_out (k5 x4 w3003)) (ag9 lab (kF 111) x4 (List.map aZ w3003))) (x4 : Int) (w3003 : List Str) : Le (Option.map packet_is_out (kC k5 x4 w3003)) (ani lab (kF 111) x4 (List.map aZ w3003)) := by
 refine bR (axB _ x4 w3003) ?_
 unfold kC
 repeat' first | (with_reducible first | refine lC ?_ ?_ | refine lQ eX packet_is_inj ?_ fun _ _ => ?_ | refine lG ?_ ?_ | refine lD ?_ ?_ ?_ | exact kE _ _ | exact hk5 _ _ | refine aN ?_) | rfl | (simp only [EN]; done) | (simp only [EN]; exact kE _ _) | (simp only [EN, packet_is_out] <;> rfl)
theorem aeb : ∀ (fu : Nat) (x4 : Int) (w3003 : List Str), Le (Option.map packet_is_out (gY fu x4 w3003)) (ag9 lab (kF 111) x4 (List.map aZ w3003)) := by
 intro fu
 induction fu with
 | zero => intros; exact le_none
 | succ fu ih =>
  intro x4 w3003
  refine bR (aye _ x4 w3003) ?_
  unfold gY
  repeat' first | (with_reducible first | refine lC ?_ ?_ | refine lQ eX packet_is_inj ?_ fun _ _ => ?_ | refine lG ?_ ?_ | refine lD ?_ ?_ ?_ | exact kE _ _ | exact adM _ (ih) _ _ | refine aN ?_) | rfl | (simp only [EN]; done) | (simp only [EN]; exact kE _ _) | (simp only [EN, packet_is_out] <;> rfl)
theorem aaN (p0 : Str) : Le (Option.map packet_is_out (mH p0)) (aY SE 111 [dSq p0] [] []) := by
 refine bD (aBH _ p0) ?_
 unfold mH
 refine lQ eX packet_is_inj (abq _) fun r0 _ => ?_
 refine lC ?_ ?_
 ·exact aN rfl
 ·refine lQ eX zI (aaH _) fun r1 _ => ?_
  exact aeb fuel 0 r1
noncomputable def ara (L : cD) (κ : Tau) (a0 : Str) (a1 : Int) : Res := rl L κ 110 0 [1, 1, 1, 1, 1, 1, 0] (bQ [(5, dSq a0), (6, dIq a1)] [] [] [] [])
noncomputable def amd (L : cD) (κ : Tau) (a0 : Str) (a1 : Int) : Res := rl L κ 110 0 [1, 1, 1, 1, 1, 0, 0] (bQ [(5, dSq a0), (6, dIq a1)] [] [] [] [])
noncomputable def anl (L : cD) (κ : Tau) (a0 : Str) (a1 : Int) : Res := rl L κ 110 0 [1, 1, 1, 1, 0, 0] (bQ [(5, dSq a0), (6, dIq a1)] [] [] [] [])
theorem aBU (κ : Tau) (p0 : Str) : bdy κ 110 [dSq p0] [] [] =
 κ.t 112 packet_is_out [dSq p0, dSq ([36, 115, 104, 97, 114, 101, 47] : Str)] [] [] fun r0 =>
 cond (!r0) (
 (some (.ret [dSq [], dSq [], dBq false] [] []))) (
 cond (decide (0 ≤ 7) && decide (7 ≤ ((List.length p0) : Int))) (
 anl lab κ (cF p0 (some 7) none) 0) none) := by kernel_rfl
theorem ayS (κ : Tau) (x5 : Str) (x6 : Int) : ara cA κ x5 x6 =
 cond (decide (0 ≤ x6) && decide (x6 ≤ ((List.length x5) : Int))) (
 cond (decide (0 ≤ (w6 (x6 + 1))) && decide ((w6 (x6 + 1)) ≤ ((List.length x5) : Int))) (
  (some (.ret [dSq (cF x5 none (some x6)), dSq (cF x5 (some (w6 (x6 + 1))) none), dBq true] [] []))) none) none := by kernel_rfl
theorem ayD (κ : Tau) (x5 : Str) (x6 : Int) : amd cA κ x5 x6 =
 cond (x6 == (List.length x5 : Int)) (
 (some (.ret [dSq [], dSq [], dBq false] [] []))) (
 cond (decide (0 ≤ x6) && decide (x6 ≤ ((List.length x5) : Int))) (
 κ.t 80 packet_is_out [dSq (cF x5 none (some x6))] [] [] fun r1 =>
 cond (!r1) (
  (some (.ret [dSq [], dSq [], dBq false] [] []))) (
 cond (decide (0 ≤ (w6 (x6 + 1))) && decide ((w6 (x6 + 1)) ≤ ((List.length x5) : Int))) (
  κ.t 111 packet_is_out [dSq (cF x5 (some (w6 (x6 + 1))) none)] [] [] fun r2 =>
  cond (!r2) (
  (some (.ret [dSq [], dSq [], dBq false] [] []))) (
  cond (decide (0 ≤ (w6 (x6 + 1))) && decide ((w6 (x6 + 1)) ≤ ((List.length x5) : Int))) (
  κ.t 112 packet_is_out [dSq (cF x5 (some (w6 (x6 + 1))) none), dSq ([36, 115, 104, 97, 114, 101, 47] : Str)] [] [] fun r3 =>
  cond r3 (
   (some (.ret [dSq [], dSq [], dBq false] [] []))) (
  ara lab κ x5 x6)) none)) none)) none) := by kernel_rfl
theorem ayL (κ : Tau) (x5 : Str) (x6 : Int) : anl cA κ x5 x6 =
 cond (decide (x6 < (List.length x5 : Int))) (
 cond (iB x6 (List.length x5 : Int)) (
  cond ((UInt8.toNat (List.getD x5 (Int.toNat x6) 0) : Int) != 47) (
  anl lab κ x5 (w6 (x6 + 1))) (
  amd lab κ x5 x6)) none) (
 amd lab κ x5 x6) := by kernel_rfl
theorem aeg (x5 : Str) (x6 : Int) : Le (Option.map bV (pW x5 x6)) (ara lab (kF 110) x5 x6) := by
 refine bR (ayS _ x5 x6) ?_
 unfold pW
 refine lF ?_
 refine lF ?_
 exact aN rfl
theorem xI (x5 : Str) (x6 : Int) : Le (Option.map bV (kA x5 x6)) (amd lab (kF 110) x5 x6) := by
 refine bR (ayD _ x5 x6) ?_
 unfold kA
 repeat' first | (with_reducible first | refine lF ?_ | refine lC ?_ ?_ | refine lQ eX packet_is_inj ?_ fun _ _ => ?_ | refine lQ eX packet_is_inj ?_ fun _ _ => ?_ | refine lQ eX packet_is_inj ?_ fun _ _ => ?_ | exact sH _ | exact aaN _ | exact uT _ _ | exact aeg _ _ | refine aN ?_) | rfl | (simp only [EN, bV] <;> rfl)
theorem aes : ∀ (fu : Nat) (x5 : Str) (x6 : Int), Le (Option.map bV (iU fu x5 x6)) (anl lab (kF 110) x5 x6) := by
 intro fu
 induction fu with
 | zero => intros; exact le_none
 | succ fu ih =>
  intro x5 x6
  refine bR (ayL _ x5 x6) ?_
  unfold iU
  repeat' first | (with_reducible first | refine lF ?_ | refine lC ?_ ?_ | exact ih _ _ | exact xI _ _)
theorem aaz (p0 : Str) : Le (Option.map bV (mC p0)) (aY SE 110 [dSq p0] [] []) := by
 refine bD (aBU _ p0) ?_
 unfold mC
 refine lQ eX packet_is_inj (uT _ _) fun r0 _ => ?_
 refine lC ?_ ?_
 ·exact aN rfl
 ·refine lF ?_
  exact aes fuel (cF p0 (some 7) none) 0
theorem T84 (κ : Tau) (p0 : Str) : bdy κ 84 [dSq p0] [] [] =
 κ.t 110 bV [dSq p0] [] [] fun r0 =>
 cond r0.2.2 (
 (rB true)) (
 κ.t 111 packet_is_out [dSq p0] [] [] fun r1 =>
 cond r1 (
 κ.t 112 packet_is_out [dSq p0, dSq ([36, 115, 104, 97, 114, 101, 47] : Str)] [] [] fun r2 =>
 (rB (!r2))) (
 (rB false))) := by kernel_rfl
theorem aaS (p0 : Str) : Le (Option.map packet_is_out (mG p0)) (aY SE 84 [dSq p0] [] []) := by
 refine bD (T84 _ p0) ?_
 unfold mG
 refine lQ eX oD (aaz _) fun r0 _ => ?_
 refine lC ?_ ?_
 ·exact aN rfl
 ·refine lQ eX packet_is_inj (aaN _) fun r1 _ => ?_
  refine lC ?_ ?_
  ·refine lQ eX packet_is_inj (uT _ _) fun r2 _ => ?_
   exact aN rfl
  ·exact aN rfl
noncomputable def atv (L : cD) (κ : Tau) (a0 : List D) : Res := rl L κ 83 0 [1, 1, 1, 0] (bQ [(1, .ptr 1000000000 0)] [⟨112, (List.map AV.d a0)⟩] [] [] [])
theorem T83 (κ : Tau) (p0 : aG) : bdy κ 83 [aG.av p0] [] [] =
 κ.t 84 packet_is_out [dSq p0.Filter] [] [] fun r0 =>
 cond (!r0) (
 (rI 13)) (
 cond (decide (p0.Level < 0)) (
 (rI 14)) (
 cond (decide (p0.Level > 2)) (
 (rI 14)) (
 atv lab κ (aG.enc p0)))) := by kernel_rfl
theorem azq (κ : Tau) (b0 : aG) : atv cA κ (aG.enc b0) =
 κ.t 110 bV [dSq b0.Filter] [] [] fun r1 =>
 cond b0.NoLocal (
 cond r1.2.2 (
  (rI 28)) (
 (rI 0))) (
 (rI 0)) := by kernel_rfl
theorem agJ (b0 : aG) : Le (Option.map aH (sX b0)) (atv lab (kF 83) (aG.enc b0)) := by
 refine bR (azq _ b0) ?_
 unfold sX
 refine lQ eX oD (aaz _) fun r1 _ => ?_
 refine lC ?_ ?_
 ·refine lC ?_ ?_
  ·exact aN rfl
  ·exact aN rfl
 ·exact aN rfl
theorem aiU (p0 : aG) : Le (Option.map aH (sW p0)) (aY SE 83 [aG.av p0] [] []) := by
 refine bD (T83 _ p0) ?_
 unfold sW
 refine lQ eX packet_is_inj (aaS _) fun r0 _ => ?_
 refine lC ?_ ?_
 ·exact aN rfl
 ·refine lC ?_ ?_
  ·exact aN rfl
  ·refine lC ?_ ?_
   ·exact aN rfl
   ·exact agJ p0
noncomputable def amE (L : cD) (κ : Tau) (a0 : Int) (a1 : List D) : Res := rl L κ 58 0 [1, 1, 1, 0, 1, 0] (bQ [(1, .ptr 1000000000 0), (6, dIq a0)] [⟨53, (List.map AV.d a1)⟩] [] [] [])
noncomputable def ao9 (L : cD) (κ : Tau) (a0 : Int) (a1 : List D) : Res := rl L κ 58 0 [1, 1, 0, 1, 0] (bQ [(1, .ptr 1000000000 0), (5, dIq a0)] [⟨53, (List.map AV.d a1)⟩] [] [] [])
noncomputable def apn (L : cD) (κ : Tau) (a0 : Int) (a1 : List D) : Res := rl L κ 58 0 [1, 0, 1, 0] (bQ [(1, .ptr 1000000000 0), (3, dIq a0)] [⟨53, (List.map AV.d a1)⟩] [] [] [])
theorem T58 (κ : Tau) (p0 : aA) : bdy κ 58 [aA.av p0] [] [] =
 apn lab κ 0 (aA.enc p0) := by kernel_rfl
theorem ayX (κ : Tau) (x6 : Int) (b0 : aA) : amE cA κ x6 (aA.enc b0) =
 cond (decide (x6 < (lM eI b0.Codes : Int))) (
 cond (iB x6 (lM eI b0.Codes : Int)) (
  κ.t 55 packet_is_out [dIq (aX (cE eI b0.Codes x6 0))] [] [] fun r2 =>
  cond (!r2) (
  (rI 1)) (
  amE lab κ (w6 (x6 + 1)) (aA.enc b0))) none) (
 (rI 0)) := by kernel_rfl
theorem azG (κ : Tau) (x5 : Int) (b0 : aA) : ao9 cA κ x5 (aA.enc b0) =
 cond (decide (x5 < (lM aZ b0.Filters : Int))) (
 cond (iB x5 (lM aZ b0.Filters : Int)) (
  κ.t 84 packet_is_out [dSq (bM (cE aZ b0.Filters x5 0))] [] [] fun r1 =>
  cond (!r1) (
  (rI 13)) (
  ao9 lab κ (w6 (x5 + 1)) (aA.enc b0))) none) (
 amE lab κ 0 (aA.enc b0)) := by kernel_rfl
theorem aAl (κ : Tau) (x3 : Int) (b0 : aA) : apn cA κ x3 (aA.enc b0) =
 cond (decide (x3 < (lM aG.enc b0.Subs : Int))) (
 cond (iB x3 (lM aG.enc b0.Subs : Int)) (
  κ.t 83 aH [.agg [dSq (bM (cE aG.enc b0.Subs x3 0)), dIq (aX (cE aG.enc b0.Subs x3 1)), dBq (bX (cE aG.enc b0.Subs x3 2))]] [] [] fun r0 =>
  cond (r0 != 0) (
  (rI r0)) (
  apn lab κ (w6 (x3 + 1)) (aA.enc b0))) none) (
 ao9 lab κ 0 (aA.enc b0)) := by kernel_rfl
theorem acC : ∀ (fu : Nat) (x6 : Int) (b0 : aA), Le (Option.map aH (fJ fu x6 b0)) (amE lab (kF 58) x6 (aA.enc b0)) := by
 intro fu
 induction fu with
 | zero => intros; exact le_none
 | succ fu ih =>
  intro x6 b0
  refine bR (ayX _ x6 b0) ?_
  unfold fJ
  repeat' first | (with_reducible first | refine lC ?_ ?_ | refine lQ eX packet_is_inj ?_ fun _ _ => ?_ | refine lG ?_ ?_ | refine lD ?_ ?_ ?_ | exact abC _ | exact ih _ _ | refine aN ?_) | rfl | (simp only [EN]; done) | (simp only [EN]; exact abC _) | (simp only [EN, aH] <;> rfl)
theorem acG : ∀ (fu : Nat) (x5 : Int) (b0 : aA), Le (Option.map aH (fU fu x5 b0)) (ao9 lab (kF 58) x5 (aA.enc b0)) := by
 intro fu
 induction fu with
 | zero => intros; exact le_none
 | succ fu ih =>
  intro x5 b0
  refine bR (azG _ x5 b0) ?_
  unfold fU
  repeat' first | (with_reducible first | refine lC ?_ ?_ | refine lQ eX packet_is_inj ?_ fun _ _ => ?_ | refine lG ?_ ?_ | refine lD ?_ ?_ ?_ | exact aaS _ | exact ih _ _ | exact acC fuel _ _ | refine aN ?_) | rfl | (simp only [EN]; done) | (simp only [EN]; exact aaS _) | (simp only [EN, aH] <;> rfl)
theorem acU : ∀ (fu : Nat) (x3 : Int) (b0 : aA), Le (Option.map aH (hQ fu x3 b0)) (apn lab (kF 58) x3 (aA.enc b0)) := by
 intro fu
 induction fu with
 | zero => intros; exact le_none
 | succ fu ih =>
  intro x3 b0
  refine bR (aAl _ x3 b0) ?_
  unfold hQ
  refine lDe ?_ ?_
  ·refine lGe ?_
   refine lQ eX bA (by (try simp only [EN]); exact aiU (List.getD b0.Subs (Int.toNat x3) default)) fun r0 _ => ?_
   refine lC ?_ ?_
   ·exact aN rfl
   ·exact ih (w6 (x3 + 1)) b0
  ·exact acG fuel 0 b0
theorem aeL (p0 : aA) : Le (Option.map aH (mX p0)) (aY SE 58 [aA.av p0] [] []) := by
 refine bD (T58 _ p0) ?_
 unfold mX
 exact acU fuel 0 p0
noncomputable def apM (L : cD) (κ : Tau) (a0 : List D) : Res := rl L κ 31 0 [1, 1, 1, 1, 1, 1, 1, 1, 1, 0] (bQ [(1, .ptr 1000000000 0)] [⟨53, (List.map AV.d a0)⟩] [] [] [])
noncomputable def aqF (L : cD) (κ : Tau) (a0 : List D) : Res := rl L κ 31 0 [1, 1, 1, 1, 1, 1, 1, 0] (bQ [(1, .ptr 1000000000 0)] [⟨53, (List.map AV.d a0)⟩] [] [] [])
noncomputable def apT (L : cD) (κ : Tau) (a0 : List D) : Res := rl L κ 31 0 [1, 1, 1, 1, 1, 1, 0, 0] (bQ [(1, .ptr 1000000000 0)] [⟨53, (List.map AV.d a0)⟩] [] [] [])
noncomputable def as0 (L : cD) (κ : Tau) (a0 : List D) : Res := rl L κ 31 0 [1, 1, 0, 0] (bQ [(1, .ptr 1000000000 0)] [⟨53, (List.map AV.d a0)⟩] [] [] [])
theorem T31 (κ : Tau) (p0 : aA) : bdy κ 31 [aA.av p0] [] [] =
 cond (decide (p0.Kind < 1)) (
 (rI 10)) (
 cond (decide (p0.Kind > 14)) (
 (rI 10)) (
 as0 lab κ (aA.enc p0))) := by kernel_rfl
theorem axL (κ : Tau) (b0 : aA) : apM cA κ (aA.enc b0) =
 κ.t 57 aH [dIq (w6 ((w6 ((lM aG.enc b0.Subs : Int) + (lM aZ b0.Filters : Int))) + (lM eI b0.Codes : Int)))] [] [] fun r7 =>
 cond (r7 != 0) (
 (rI r7)) (
 κ.t 58 aH [aA.av b0] [] [] fun r8 =>
 (rI r8)) := by kernel_rfl
theorem axX (κ : Tau) (b0 : aA) : aqF cA κ (aA.enc b0) =
 κ.t 56 aH [dIq b0.ID] [] [] fun r6 =>
 cond (r6 != 0) (
 (rI r6)) (
 cond (decide (b0.Kind ≤ 7)) (
 (rI r6)) (
 apM lab κ (aA.enc b0))) := by kernel_rfl
theorem ayn (κ : Tau) (b0 : aA) : apT cA κ (aA.enc b0) =
 cond (b0.Kind == 12) (
 (rI 0)) (
 cond (b0.Kind == 13) (
 (rI 0)) (
 aqF lab κ (aA.enc b0))) := by kernel_rfl
theorem azR (κ : Tau) (b0 : aA) : as0 cA κ (aA.enc b0) =
 κ.t 52 cH [aA.av b0] [] [] fun r0 =>
 κ.t 30 packet_is_out [aA.av b0, aA.av r0] [] [] fun r1 =>
 cond (!r1) (
 (rI 28)) (
 cond (b0.Kind == 1) (
 κ.t 53 aH [aA.av b0] [] [] fun r2 =>
 (rI r2)) (
 cond (b0.Kind == 3) (
 κ.t 54 aH [aA.av b0] [] [] fun r3 =>
 (rI r3)) (
 cond (b0.Kind == 2) (
 κ.t 55 packet_is_out [dIq b0.Code] [] [] fun r4 =>
 cond (!r4) (
  (rI 1)) (
 cond b0.Present (
  cond (b0.Code != 0) (
  (rI 28)) (
  (rI 0))) (
 (rI 0)))) (
 cond (b0.Kind == 14) (
 κ.t 55 packet_is_out [dIq b0.Code] [] [] fun r5 =>
 cond (!r5) (
  (rI 1)) (
 cond b0.Present (
  cond (b0.Code != 0) (
  (rI 28)) (
  (rI 0))) (
 (rI 0)))) (
 apT lab κ (aA.enc b0)))))) := by kernel_rfl
theorem ad9 (b0 : aA) : Le (Option.map aH (pO b0)) (apM lab (kF 31) (aA.enc b0)) := by
 refine bR (axL _ b0) ?_
 unfold pO
 repeat' first | (with_reducible first | refine lC ?_ ?_ | refine lQ eX bA ?_ fun _ _ => ?_ | refine lQ eX bA ?_ fun _ _ => ?_ | exact abg _ | exact aeL _ | refine aN ?_) | rfl | (simp only [EN]; exact abg _) | (simp only [EN, aH] <;> rfl)
theorem aep (b0 : aA) : Le (Option.map aH (pP b0)) (aqF lab (kF 31) (aA.enc b0)) := by
 refine bR (axX _ b0) ?_
 unfold pP
 refine lQ eX bA (abf _) fun r6 _ => ?_
 refine lC ?_ ?_
 ·exact aN rfl
 ·refine lC ?_ ?_
  ·exact aN rfl
  ·exact ad9 b0
theorem aea (b0 : aA) : Le (Option.map aH (pN b0)) (apT lab (kF 31) (aA.enc b0)) := by
 refine bR (ayn _ b0) ?_
 unfold pN
 refine lC ?_ ?_
 ·exact aN rfl
 ·refine lC ?_ ?_
  ·exact aN rfl
  ·exact aep b0
theorem aeK (b0 : aA) : Le (Option.map aH (qR b0)) (as0 lab (kF 31) (aA.enc b0)) := by
 refine bR (azR _ b0) ?_
 unfold qR
 repeat' first | (with_reducible first | refine lC ?_ ?_ | refine lQ eX aff ?_ fun _ _ => ?_ | refine lQ eX packet_is_inj ?_ fun _ _ => ?_ | refine lQ eX bA ?_ fun _ _ => ?_ | refine lQ eX bA ?_ fun _ _ => ?_ | refine lQ eX packet_is_inj ?_ fun _ _ => ?_ | exact aiy _ | exact wS _ _ | exact afM _ | exact afT _ | exact abC _ | exact aea _ | refine aN ?_) | rfl | (simp only [EN, aH] <;> rfl)
theorem vL (p0 : aA) : Le (Option.map aH (kY p0)) (aY SE 31 [aA.av p0] [] []) := by
 refine bD (T31 _ p0) ?_
 unfold kY
 refine lC ?_ ?_
 ·exact aN rfl
 ·refine lC ?_ ?_
  ·exact aN rfl
  ·exact aeK p0
noncomputable def am5 (L : cD) (κ : Tau) (a0 a1 a2 : List D) : Res := rl L κ 46 0 [1, 1, 1, 1, 1, 1, 1, 1, 1, 0, 0] (bQ [(2, .ptr 1000000000 0), (4, .ptr 1000000001 0), (6, .ptr 1000000002 0)] [⟨53, (List.map AV.d a0)⟩, ⟨108, (List.map AV.d a1)⟩, ⟨53, (List.map AV.d a2)⟩] [] [] [])
noncomputable def ajA (L : cD) (κ : Tau) (a0 a1 a2 : List D) : Res := rl L κ 46 0 [1, 1, 1, 1, 1, 1, 1, 1, 0, 0] (bQ [(2, .ptr 1000000000 0), (4, .ptr 1000000001 0), (6, .ptr 1000000002 0)] [⟨53, (List.map AV.d a0)⟩, ⟨108, (List.map AV.d a1)⟩, ⟨53, (List.map AV.d a2)⟩] [] [] [])
noncomputable def akf (L : cD) (κ : Tau) (a0 : List (List D)) (a1 : Int) (a2 a3 : List D) : Res := rl L κ 46 0 [1, 1, 1, 1, 1, 0, 0] (bQ [(0, .d (.sl [.int .u8] a0)), (2, .ptr 1000000000 0), (4, .ptr 1000000001 0), (5, dIq a1)] [⟨53, (List.map AV.d a2)⟩, ⟨108, (List.map AV.d a3)⟩] [] [] [])
theorem T46 (κ : Tau) (p0 : List Int) : bdy κ 46 [.d (.sl [.int .u8] (List.map (aO .u8) p0))] [] [] =
 cond (decide ((lM (aO .u8) p0 : Int) > 4096)) (
 (some (dU ((zPq, 5))))) (
 κ.t 77 aW [.ptr 2000000000 0] [⟨108, (aC.avs (aC.mk p0 0 0))⟩] [] fun r0 =>
 cond (r0.2.E == 0) (
 cond (decide (r0.1 < 1)) (
  akf lab κ (List.map (aO .u8) p0) r0.1 [D.int .i64 0, D.int .i64 0, D.bool false, D.str [], D.str [], D.int .i64 0, D.bool false, D.int .i64 0, D.int .i64 0, D.str [], D.int .i64 0, D.sl aE.ks (List.map aE.enc []), D.str [], D.str [], D.bool false, D.int .i64 0, D.int .i64 0, D.int .i64 0, D.bool false, D.int .i64 0, D.str [], D.str [], D.int .i64 0, D.bool false, D.int .i64 0, D.int .i64 0, D.str [], D.int .i64 0, D.sl aE.ks (List.map aE.enc []), D.bool false, D.int .i64 0, D.sl aG.ks (List.map aG.enc []), D.sl [.str] (List.map aZ []), D.sl [.int .i64] (List.map eI [])] (aC.enc (aC.mk r0.2.B r0.2.At 10))) (
 cond (decide (r0.1 > 14)) (
  akf lab κ (List.map (aO .u8) p0) r0.1 [D.int .i64 0, D.int .i64 0, D.bool false, D.str [], D.str [], D.int .i64 0, D.bool false, D.int .i64 0, D.int .i64 0, D.str [], D.int .i64 0, D.sl aE.ks (List.map aE.enc []), D.str [], D.str [], D.bool false, D.int .i64 0, D.int .i64 0, D.int .i64 0, D.bool false, D.int .i64 0, D.str [], D.str [], D.int .i64 0, D.bool false, D.int .i64 0, D.int .i64 0, D.str [], D.int .i64 0, D.sl aE.ks (List.map aE.enc []), D.bool false, D.int .i64 0, D.sl aG.ks (List.map aG.enc []), D.sl [.str] (List.map aZ []), D.sl [.int .i64] (List.map eI [])] (aC.enc (aC.mk r0.2.B r0.2.At 10))) (
 akf lab κ (List.map (aO .u8) p0) r0.1 [D.int .i64 0, D.int .i64 0, D.bool false, D.str [], D.str [], D.int .i64 0, D.bool false, D.int .i64 0, D.int .i64 0, D.str [], D.int .i64 0, D.sl aE.ks (List.map aE.enc []), D.str [], D.str [], D.bool false, D.int .i64 0, D.int .i64 0, D.int .i64 0, D.bool false, D.int .i64 0, D.str [], D.str [], D.int .i64 0, D.bool false, D.int .i64 0, D.int .i64 0, D.str [], D.int .i64 0, D.sl aE.ks (List.map aE.enc []), D.bool false, D.int .i64 0, D.sl aG.ks (List.map aG.enc []), D.sl [.str] (List.map aZ []), D.sl [.int .i64] (List.map eI [])] (aC.enc r0.2)))) (
 akf lab κ (List.map (aO .u8) p0) r0.1 [D.int .i64 0, D.int .i64 0, D.bool false, D.str [], D.str [], D.int .i64 0, D.bool false, D.int .i64 0, D.int .i64 0, D.str [], D.int .i64 0, D.sl aE.ks (List.map aE.enc []), D.str [], D.str [], D.bool false, D.int .i64 0, D.int .i64 0, D.int .i64 0, D.bool false, D.int .i64 0, D.str [], D.str [], D.int .i64 0, D.bool false, D.int .i64 0, D.int .i64 0, D.str [], D.int .i64 0, D.sl aE.ks (List.map aE.enc []), D.bool false, D.int .i64 0, D.sl aG.ks (List.map aG.enc []), D.sl [.str] (List.map aZ []), D.sl [.int .i64] (List.map eI [])] (aC.enc r0.2))) := by kernel_rfl
theorem ay6 (κ : Tau) (b0 : aA) (b1 : aC) (b2 : aA) : am5 cA κ (aA.enc b0) (aC.enc b1) (aA.enc b2) =
 cond (b1.E != 0) (
 (some (dU ((zPq, b1.E))))) (
 (some (.ret [aA.av b2, dIq 0] [] []))) := by kernel_rfl
theorem ax3 (κ : Tau) (b0 : aA) (b1 : aC) (b2 : aA) : ajA cA κ (aA.enc b0) (aC.enc b1) (aA.enc b2) =
 cond (b1.E == 0) (
 κ.t 31 aH [aA.av b2] [] [] fun r2 =>
 am5 lab κ (aA.enc b0) (aC.enc (aC.mk b1.B b1.At r2)) (aA.enc b2)) (
 am5 lab κ (aA.enc b0) (aC.enc b1) (aA.enc b2)) := by kernel_rfl
theorem azN (κ : Tau) (x0 : List Int) (x5 : Int) (b0 : aA) (b1 : aC) : akf cA κ (List.map (aO .u8) x0) x5 (aA.enc b0) (aC.enc b1) =
 cond (b1.E != 0) (
 (some (dU ((zPq, b1.E))))) (
 κ.t 78 bK [.ptr 2000000000 0, dIq x5] [⟨108, (aC.avs b1)⟩] [] fun r1 =>
 cond (r1.2.E == 0) (
 cond (decide (r1.2.At < (lM (aO .u8) x0 : Int))) (
  ajA lab κ (aA.enc b0) (aC.enc (aC.mk r1.2.B r1.2.At 2)) (aA.enc r1.1)) (
 ajA lab κ (aA.enc b0) (aC.enc r1.2) (aA.enc r1.1))) (
 ajA lab κ (aA.enc b0) (aC.enc r1.2) (aA.enc r1.1))) := by kernel_rfl
theorem w7 (b0 : aA) (b1 : aC) (b2 : aA) : Le (Option.map dU (jT b0 b1 b2)) (am5 lab (kF 46) (aA.enc b0) (aC.enc b1) (aA.enc b2)) := by
 refine bR (ay6 _ b0 b1 b2) ?_
 unfold jT
 refine lC ?_ ?_
 ·exact aN rfl
 ·exact aN rfl
theorem qN (b0 : aA) (b1 : aC) (b2 : aA) : Le (Option.map dU (dH b0 b1 b2)) (ajA lab (kF 46) (aA.enc b0) (aC.enc b1) (aA.enc b2)) := by
 refine bR (ax3 _ b0 b1 b2) ?_
 unfold dH
 refine lC ?_ ?_
 ·refine lQ eX bA (vL _) fun r2 _ => ?_
  exact w7 b0 (aC.mk b1.B b1.At r2) b2
 ·exact w7 b0 b1 b2
theorem xU (x0 : List Int) (x5 : Int) (b0 : aA) (b1 : aC) : Le (Option.map dU (dQ x0 x5 b0 b1)) (akf lab (kF 46) (List.map (aO .u8) x0) x5 (aA.enc b0) (aC.enc b1)) := by
 refine bR (azN _ x0 x5 b0 b1) ?_
 unfold dQ
 repeat' first | (with_reducible first | refine lC ?_ ?_ | refine lQ eX vA ?_ fun _ _ => ?_ | refine lD ?_ ?_ ?_ | exact aiw _ _ | exact qN _ _ _ | refine aN ?_) | rfl | (simp only [EN]; done) | (simp only [EN, dU] <;> rfl)
theorem ahd (p0 : List Int) : Le (Option.map dU (jG p0)) (aY SE 46 [.d (.sl [.int .u8] (List.map (aO .u8) p0))] [] []) := by
 refine bD (T46 _ p0) ?_
 unfold jG
 repeat' first | (with_reducible first | refine lC ?_ ?_ | refine lQ eX bU ?_ fun _ _ => ?_ | refine lD ?_ ?_ ?_ | exact dJ _ | exact xU _ _ _ _ | refine aN ?_) | rfl | (simp only [EN]; done) | (simp only [EN]; exact xU _ _ _ _) | (simp only [EN, dU] <;> rfl)
noncomputable def apF (L : cD) (κ : Tau) (a0 : List (List D)) (a1 : Int) (a2 : List (List D)) : Res := rl L κ 28 0 [1, 1, 1, 0, 0] (bQ [(0, .d (.sl [.int .u8] a0)), (4, .row 3004), (5, dIq a1)] [] [] [] [(3004, ⟨aA.ks, 53, 416, a2⟩)])
theorem T28 (κ : Tau) (p0 : List Int) : bdy κ 28 [.d (.sl [.int .u8] (List.map (aO .u8) p0))] [] [] =
 apF lab κ (List.map (aO .u8) p0) 0 (List.map aA.enc []) := by kernel_rfl
theorem azY (κ : Tau) (x0 : List Int) (x5 : Int) (w3004 : List aA) : apF cA κ (List.map (aO .u8) x0) x5 (List.map aA.enc w3004) =
 cond (decide (x5 < (lM (aO .u8) x0 : Int))) (
 κ.t 45 eU [.d (.sl [.int .u8] (List.map (aO .u8) x0)), dIq x5, dIq 4096] [] [] fun r0 =>
 cond (r0.2.2 != 0) (
  (some (cR ([], r0.2.2)))) (
 κ.t 46 dU [.d (.sl [.int .u8] (fQ r0.1))] [] [] fun r1 =>
 cond (r1.2 != 0) (
  (some (cR ([], r1.2)))) (
 cond (decide ((lM aA.enc w3004 + lM aA.enc [r1.1]) * 416 ≤ 140737488355328)) (
  apF lab κ (List.map (aO .u8) x0) r0.2.1 (((List.map aA.enc w3004) ++ (List.map aA.enc [r1.1])))) none))) (
 (some (cR (w3004, 0)))) := by kernel_rfl
theorem ach : ∀ (fu : Nat) (x0 : List Int) (x5 : Int) (w3004 : List aA), Le (Option.map cR (fK fu x0 x5 w3004)) (apF lab (kF 28) (List.map (aO .u8) x0) x5 (List.map aA.enc w3004)) := by
 intro fu
 induction fu with
 | zero => intros; exact le_none
 | succ fu ih =>
  intro x0 x5 w3004
  refine bR (azY _ x0 x5 w3004) ?_
  unfold fK
  repeat' first | (with_reducible first | refine lC ?_ ?_ | refine lQ eX acQ ?_ fun _ _ => ?_ | refine lQ eX af2 ?_ fun _ _ => ?_ | refine lG ?_ ?_ | refine lD ?_ ?_ ?_ | exact abB _ _ _ | exact ahd _ | exact ih _ _ _ | refine aN ?_) | rfl | (simp only [EN]; done) | (simp only [EN]; exact ahd _) | (simp only [EN]; exact ih _ _ _) | (simp only [EN, cR] <;> rfl)
theorem adI (p0 : List Int) : Le (Option.map cR (pR p0)) (aY SE 28 [.d (.sl [.int .u8] (List.map (aO .u8) p0))] [] []) := by
 refine bD (T28 _ p0) ?_
 unfold pR
 (try simp only [EN]); exact ach fuel p0 0 []
theorem T29 (κ : Tau) (p0 : aJ) : bdy κ 29 [aJ.av p0] [] [] =
 (some (.ret [aJ.av (aJ.mk p0.Conn p0.Sent p0.Got true)] [] [])) := by kernel_rfl
theorem ahM (p0 : aJ) : Le (Option.map fD (uA p0)) (aY SE 29 [aJ.av p0] [] []) := by
 refine bD (T29 _ p0) ?_
 unfold uA
 exact aN rfl
theorem T13 (κ : Tau) (p0 : aJ) (p1 : List Int) : bdy κ 13 [aJ.av p0, .d (.sl [.int .u8] (List.map (aO .u8) p1))] [] [] =
 κ.t 27 dO [.d (.sl [.int .u8] (List.map (aO .u8) p1))] [] [] fun r0 =>
 cond (r0.2.2.2 != 0) (
 (some (bT ([], p0, r0.2.2.2)))) (
 κ.t 28 cR [.d (.sl [.int .u8] (List.map (aO .u8) r0.2.2.1))] [] [] fun r1 =>
 cond (r1.2 != 0) (
 (some (bT ([], p0, r1.2)))) (
 cond (r0.1 != p0.Conn) (
 (some (bT ([], p0, 8)))) (
 cond p0.Broken (
 (some (bT ([], p0, 21)))) (
 cond (decide (r0.2.1 ≤ p0.Got)) (
 (some (bT ([], p0, 26)))) (
 cond (r0.2.1 != (w6 (p0.Got + 1))) (
 κ.t 29 fD [aJ.av p0] [] [] fun r2 =>
 (some (bT ([], r2, 22)))) (
 (some (bT (r1.1, (aJ.mk p0.Conn p0.Sent r0.2.1 p0.Broken), 0))))))))) := by kernel_rfl
theorem afV (p0 : aJ) (p1 : List Int) : Le (Option.map bT (oF p0 p1)) (aY SE 13 [aJ.av p0, .d (.sl [.int .u8] (List.map (aO .u8) p1))] [] []) := by
 refine bD (T13 _ p0 p1) ?_
 unfold oF
 repeat' first | (with_reducible first | refine lC ?_ ?_ | refine lQ eX abb ?_ fun _ _ => ?_ | refine lQ eX acD ?_ fun _ _ => ?_ | refine lQ eX rJ ?_ fun _ _ => ?_ | exact ail _ | exact adI _ | exact ahM _ | refine aN ?_) | rfl | (simp only [EN, bT] <;> rfl)
noncomputable def aph (L : cD) (κ : Tau) (a0 a1 : List (List D)) (a2 : Int) : Res := rl L κ 14 0 [1, 1, 0, 1, 0] (bQ [(0, .d (.sl aA.ks a0)), (1, .d (.sl aA.ks a1)), (5, dIq a2)] [] [] [] [])
theorem T14 (κ : Tau) (p0 p1 : List aA) : bdy κ 14 [.d (.sl aA.ks (List.map aA.enc p0)), .d (.sl aA.ks (List.map aA.enc p1))] [] [] =
 cond ((lM aA.enc p0 : Int) != (lM aA.enc p1 : Int)) (
 (rB false)) (
 aph lab κ (List.map aA.enc p0) (List.map aA.enc p1) 0) := by kernel_rfl
theorem az8 (κ : Tau) (x0 x1 : List aA) (x5 : Int) : aph cA κ (List.map aA.enc x0) (List.map aA.enc x1) x5 =
 cond (decide (x5 < (lM aA.enc x0 : Int))) (
 cond (iB x5 (lM aA.enc x0 : Int)) (
  cond (iB x5 (lM aA.enc x1 : Int)) (
  κ.t 30 packet_is_out [.agg [dIq (aX (cE aA.enc x0 x5 0)), dIq (aX (cE aA.enc x0 x5 1)), dBq (bX (cE aA.enc x0 x5 2)), dSq (bM (cE aA.enc x0 x5 3)), dSq (bM (cE aA.enc x0 x5 4)), dIq (aX (cE aA.enc x0 x5 5)), dBq (bX (cE aA.enc x0 x5 6)), dIq (aX (cE aA.enc x0 x5 7)), dIq (aX (cE aA.enc x0 x5 8)), dSq (bM (cE aA.enc x0 x5 9)), dIq (aX (cE aA.enc x0 x5 10)), .d (.sl aE.ks (dSl (cE aA.enc x0 x5 11))), dSq (bM (cE aA.enc x0 x5 12)), dSq (bM (cE aA.enc x0 x5 13)), dBq (bX (cE aA.enc x0 x5 14)), dIq (aX (cE aA.enc x0 x5 15)), dIq (aX (cE aA.enc x0 x5 16)), dIq (aX (cE aA.enc x0 x5 17)), dBq (bX (cE aA.enc x0 x5 18)), dIq (aX (cE aA.enc x0 x5 19)), dSq (bM (cE aA.enc x0 x5 20)), dSq (bM (cE aA.enc x0 x5 21)), dIq (aX (cE aA.enc x0 x5 22)), dBq (bX (cE aA.enc x0 x5 23)), dIq (aX (cE aA.enc x0 x5 24)), dIq (aX (cE aA.enc x0 x5 25)), dSq (bM (cE aA.enc x0 x5 26)), dIq (aX (cE aA.enc x0 x5 27)), .d (.sl aE.ks (dSl (cE aA.enc x0 x5 28))), dBq (bX (cE aA.enc x0 x5 29)), dIq (aX (cE aA.enc x0 x5 30)), .d (.sl aG.ks (dSl (cE aA.enc x0 x5 31))), .d (.sl [.str] (dSl (cE aA.enc x0 x5 32))), .d (.sl [.int .i64] (dSl (cE aA.enc x0 x5 33)))], .agg [dIq (aX (cE aA.enc x1 x5 0)), dIq (aX (cE aA.enc x1 x5 1)), dBq (bX (cE aA.enc x1 x5 2)), dSq (bM (cE aA.enc x1 x5 3)), dSq (bM (cE aA.enc x1 x5 4)), dIq (aX (cE aA.enc x1 x5 5)), dBq (bX (cE aA.enc x1 x5 6)), dIq (aX (cE aA.enc x1 x5 7)), dIq (aX (cE aA.enc x1 x5 8)), dSq (bM (cE aA.enc x1 x5 9)), dIq (aX (cE aA.enc x1 x5 10)), .d (.sl aE.ks (dSl (cE aA.enc x1 x5 11))), dSq (bM (cE aA.enc x1 x5 12)), dSq (bM (cE aA.enc x1 x5 13)), dBq (bX (cE aA.enc x1 x5 14)), dIq (aX (cE aA.enc x1 x5 15)), dIq (aX (cE aA.enc x1 x5 16)), dIq (aX (cE aA.enc x1 x5 17)), dBq (bX (cE aA.enc x1 x5 18)), dIq (aX (cE aA.enc x1 x5 19)), dSq (bM (cE aA.enc x1 x5 20)), dSq (bM (cE aA.enc x1 x5 21)), dIq (aX (cE aA.enc x1 x5 22)), dBq (bX (cE aA.enc x1 x5 23)), dIq (aX (cE aA.enc x1 x5 24)), dIq (aX (cE aA.enc x1 x5 25)), dSq (bM (cE aA.enc x1 x5 26)), dIq (aX (cE aA.enc x1 x5 27)), .d (.sl aE.ks (dSl (cE aA.enc x1 x5 28))), dBq (bX (cE aA.enc x1 x5 29)), dIq (aX (cE aA.enc x1 x5 30)), .d (.sl aG.ks (dSl (cE aA.enc x1 x5 31))), .d (.sl [.str] (dSl (cE aA.enc x1 x5 32))), .d (.sl [.int .i64] (dSl (cE aA.enc x1 x5 33)))]] [] [] fun r0 =>
  cond (!r0) (
   (rB false)) (
  aph lab κ (List.map aA.enc x0) (List.map aA.enc x1) (w6 (x5 + 1)))) none) none) (
 (rB true)) := by kernel_rfl
theorem adh : ∀ (fu : Nat) (x0 x1 : List aA) (x5 : Int), Le (Option.map packet_is_out (iI fu x0 x1 x5)) (aph lab (kF 14) (List.map aA.enc x0) (List.map aA.enc x1) x5) := by
 intro fu
 induction fu with
 | zero => intros; exact le_none
 | succ fu ih =>
  intro x0 x1 x5
  refine bR (az8 _ x0 x1 x5) ?_
  unfold iI
  repeat' first | (with_reducible first | refine lC ?_ ?_ | refine lQ eX packet_is_inj ?_ fun _ _ => ?_ | refine lG ?_ ?_ | refine lD ?_ ?_ ?_ | exact wS _ _ | exact ih _ _ _ | refine aN ?_) | rfl | (simp only [EN]; done) | (simp only [EN]; exact wS _ _) | (simp only [EN, packet_is_out] <;> rfl)
theorem tL (p0 p1 : List aA) : Le (Option.map packet_is_out (lL p0 p1)) (aY SE 14 [.d (.sl aA.ks (List.map aA.enc p0)), .d (.sl aA.ks (List.map aA.enc p1))] [] []) := by
 refine bD (T14 _ p0 p1) ?_
 unfold lL
 refine lDe ?_ ?_
 ·exact aN rfl
 ·exact adh fuel p0 p1 0
theorem T4 (κ : Tau) (p0 : aJ) (p1 : List Int) : bdy κ 4 [aJ.av p0, .d (.sl [.int .u8] (List.map (aO .u8) p1))] [] [] =
 cond (decide ((lM (aO .u8) p1 : Int) > 6000)) (
 κ.t 8 packet_is_out [] [] [] fun r0 =>
 (rB r0)) (
 κ.t 12 bT [aJ.av p0, .d (.sl [.int .u8] (List.map (aO .u8) p1))] [] [] fun r1 =>
 κ.t 13 bT [aJ.av p0, .d (.sl [.int .u8] (List.map (aO .u8) p1))] [] [] fun r2 =>
 κ.t 14 packet_is_out [.d (.sl aA.ks (List.map aA.enc r1.1)), .d (.sl aA.ks (List.map aA.enc r2.1))] [] [] fun r3 =>
 cond r3 (
 cond ((r1.2.1.Conn == r2.2.1.Conn) && ((r1.2.1.Sent == r2.2.1.Sent) && ((r1.2.1.Got == r2.2.1.Got) && ((r1.2.1.Broken == r2.2.1.Broken) && true)))) (
  cond (r1.2.2 == r2.2.2) (
  κ.t 8 packet_is_out [] [] [] fun r4 =>
  (rB r4)) (
  (rB false))) (
 (rB false))) (
 (rB false))) := by kernel_rfl
theorem abz (p0 : aJ) (p1 : List Int) : Le (Option.map packet_is_out (lV p0 p1)) (aY SE 4 [aJ.av p0, .d (.sl [.int .u8] (List.map (aO .u8) p1))] [] []) := by
 refine bD (T4 _ p0 p1) ?_
 unfold lV
 repeat' first | (with_reducible first | refine lC ?_ ?_ | refine lQ eX packet_is_inj ?_ fun _ _ => ?_ | refine lQ eX pB ?_ fun _ _ => ?_ | refine lQ eX pB ?_ fun _ _ => ?_ | refine lQ eX packet_is_inj ?_ fun _ _ => ?_ | refine lD ?_ ?_ ?_ | exact eO | exact nR _ _ | exact afV _ _ | exact tL _ _ | refine aN ?_) | rfl | (simp only [EN]; done) | (simp only [EN, packet_is_out] <;> rfl)
end Te
end PX
