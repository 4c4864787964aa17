import Derived.Test.YtmcpanmcgpjfiaaGreatDoorRdE
set_option linter.unusedVariables false
set_option linter.unusedSimpArgs false
namespace PX
open Go
namespace Md
theorem amx {ρ α β : Type} {x0 : List Int} {one : Rd α} {F : aD → Option (α × aD)} {R : List α → Rd β} {n : Int} {G : β → List Int → Option ρ → Prop} {B : Int → Option ρ → Prop} {T : List α → aD → Option ρ}
  {LL : Nat → Int → aD → List α → Option ρ} (sz : Nat) (hz : sz ≤ 1000) (hF : mG x0 aD.mk one F) (hT : ∀ w, Aft x0 aD.mk (R w) (fun st => T w st) G B)
  (e : ∀ fu i st w, LL (fu + 1) i st w = cond (decide (i < n)) (cond (st.E == 0) (Option.bind (F st) fun r1 => cond (decide ((w.length + [r1.1].length) * sz ≤ 140737488355328)) (LL fu (IntKind.wrap .i64 (i + 1)) r1.2 (w ++ [r1.1])) none) (T w st)) (T w st)) :
  (0 ≤ n → n ≤ 1000 → Aft x0 aD.mk (bU (uN one n.toNat) R) (fun st => LL fuel 0 st []) G B) ∧ (∀ (a e' : Int), e' ≠ 0 → B e' (LL fuel 0 ⟨x0, a, e'⟩ [])) := by
 have late : ∀ fu (i : Int) w (a e' : Int), e' ≠ 0 → LL (fu + 1) i ⟨x0, a, e'⟩ w = T w ⟨x0, a, e'⟩ := fun fu i w a e' he => by
  rw [e]
  by_cases c : i < n
  ·rw [aL (by simpa using c), aS (zZ he)]
  ·rw [aS (by simpa using c)]
 refine ⟨fun h0 h1 => ?_, fun a e' he => ?_⟩
 ·refine akE (mk := aD.mk) (L := fun fu w st => LL fu ((w.length : Nat) : Int) st w) (T := T) (n := n.toNat) hF hT ?_ ?_ ?_ n.toNat fuel [] (by simp) (by rw [hY]; omega)
  ·intro fu w a e' hw
   rw [e, aS (by simp; omega)]
  ·intro fu w a hw
   rw [e, aL (by simp; omega), aL (by simp)]
   congr 1
   funext r
   have hs : (w.length + [r.1].length) * sz ≤ (w.length + 1) * 1000 := Nat.mul_le_mul_left _ hz
   rw [aL (by simp only [decide_eq_true_eq]; omega), cF (by omega)]
   simp
  ·intro fu w a e' he
   exact late _ _ _ _ _ he
 ·obtain ⟨fu, hfu⟩ : ∃ fu, fuel = fu + 1 := ⟨fuel - 1, by rw [hY]⟩
  rw [hfu, late _ _ _ _ _ he]
  exact (hT []).2 a e' he
theorem ajf {ρ β : Type} {x0 : List Int} (hb : Buf x0) {R2 : Bool → Rd β} {K : Int × aD → Option ρ} {G : β → List Int → Option ρ → Prop} {B : Int → Option ρ → Prop} (h : ∀ x, Aft x0 aD.mk (R2 (x == 1)) (fun st => K (x, st)) G B) :
  Aft x0 aD.mk (bU xJ R2) (fun st => Option.bind (eB st 2) K) G B := by
 unfold xJ
 rw [mW]
 exact cB (aqJ hb 2) h
theorem asG {x0 : List Int} (hb : Buf x0) : mG x0 aD.mk ae5 (fun st => Option.bind (cA st 16) fun r13 => Option.bind (cA r13.2 160) fun r14 => some ((aG.mk r13.1 r14.1), r14.2)) := by
 unfold ae5
 refine cB (uS hb 16 (by decide)) fun k => ?_
 dsimp only
 refine cB (uS hb 160 (by decide)) fun v => ?_
 exact sN _
theorem aqG {x0 : List Int} (hb : Buf x0) : mG x0 aD.mk ajH iX := by
 unfold ajH ae7 iX
 refine cB (uS hb 64 (by decide)) fun t => ?_
 dsimp only
 refine cB (uS hb 256 (by decide)) fun pl => ?_
 dsimp only
 refine cB (lT hb) fun lv => ?_
 dsimp only
 refine ajf hb fun rt => ?_
 dsimp only
 refine cB (lT hb) fun pr => ?_
 dsimp only
 refine cB (lT hb) fun ex => ?_
 dsimp only
 refine cB (uS hb 16 (by decide)) fun fr => ?_
 dsimp only
 refine cB (lT hb) fun sq => ?_
 dsimp only
 have L := fun n => amx (n := n) (T := fun w st => some (aC.mk t pl lv (rt == 1) pr ex fr sq w, st)) (LL := fun fu i st w => fC fu n i pS t pl lv (rt == 1) pr ex fr sq st w) (R := fun ps => lW (aC.mk t pl lv (rt == 1) pr ex fr sq ps)) 32 (by decide) (asG hb) (fun w => sN _) (fun fu i st w => by
  simp only [fC, jP, Option.bind_assoc]
  rfl)
 refine acZ (fun n => 0 ≤ n ∧ n ≤ 8) (aaj hb 8) ac1 (fun n hn => ?_) fun n a e he => ?_
 ·exact (L n).1 hn.1 (by omega)
 ·exact (L n).2 a e he
theorem ajd {x0 : List Int} (hb : Buf x0) : mG x0 aD.mk tO jB := by
 unfold tO jB
 rw [ak5]
 refine cB (aqG hb) fun m => ?_
 dsimp only
 refine ⟨fun p hp => ?_, fun a e he => ⟨m, a, ?_⟩⟩
 ·dsimp only
  rw [aL (by simp), aow, aY]
  unfold alf
  by_cases c : checkM m = 0
  ·rw [dif_pos c, c]; exact ⟨p, hp, rfl, rfl⟩
  ·rw [dif_neg c]; exact ⟨m, p, rfl⟩
 ·dsimp only
  rw [aS (zZ he)]
theorem atG {x0 : List Int} (hb : Buf x0) : mG x0 aD.mk adZ (fun st => Option.bind (cA st 88) fun r1 => Option.bind (bP r1.2) fun r2 => Option.bind (eB r2.2 2) fun r3 => some ((aK.mk r1.1 r2.1 (r3.1 == 1)), r3.2)) := by
 unfold adZ
 refine cB (uS hb 88 (by decide)) fun f => ?_
 dsimp only
 refine cB (lT hb) fun l => ?_
 dsimp only
 refine ajf hb fun n => ?_
 exact sN _
theorem apy {x0 : List Int} (hb : Buf x0) : mG x0 aD.mk tY (fun st => Option.bind (bP st) fun r1 => Option.bind (bP r1.2) fun r2 => Option.bind (jB r2.2) fun r3 => some ((aE.mk r1.1 r2.1 r3.1), r3.2)) := by
 unfold tY
 refine cB (lT hb) fun i => ?_
 dsimp only
 refine cB (lT hb) fun s => ?_
 dsimp only
 refine cB (ajd hb) fun m => ?_
 exact sN _
theorem asb {x0 : List Int} (hb : Buf x0) : mG x0 aD.mk (mB 32 adZ) pJ := by
 unfold mB pJ
 have L := fun n => amx (n := n) (T := fun w st => some (w, st)) (LL := fun fu i st w => mQ fu n i st w) (R := fun ps => lW ps) 32 (by decide) (atG hb) (fun w => sN w) (fun fu i st w => by
  simp only [mQ, tM, Option.bind_assoc]
  rfl)
 refine acZ (fun n => 0 ≤ n ∧ n ≤ 32) (aaj hb 32) ac1 (fun n hn => ?_) fun n a e he => ?_
 ·have := (L n).1 hn.1 (by omega)
  rw [af3] at this
  exact this
 ·exact (L n).2 a e he
theorem alC {x0 : List Int} (hb : Buf x0) : mG x0 aD.mk (mB 32 fP) mS := by
 unfold mB mS
 have L := fun n => amx (n := n) (T := fun w st => some (w, st)) (LL := fun fu i st w => j7 fu n i st w) (R := fun ps => lW ps) 8 (by decide) (lT hb) (fun w => sN w) (fun fu i st w => by
  simp only [j7, pT])
 refine acZ (fun n => 0 ≤ n ∧ n ≤ 32) (aaj hb 32) ac1 (fun n hn => ?_) fun n a e he => ?_
 ·have := (L n).1 hn.1 (by omega)
  rw [af3] at this
  exact this
 ·exact (L n).2 a e he
def apT : Rd aO := bU fP fun lim => bU (mB 32 tY) fun items => bU (mB 32 fP) fun used => bU fP fun last => lW ⟨lim, items, ⟨used, last⟩⟩
theorem auD {x0 : List Int} (hb : Buf x0) : mG x0 aD.mk apT qC := by
 unfold apT qC
 refine cB (lT hb) fun lim => ?_
 dsimp only
 rw [show mB 32 tY = bU (nP 32) fun n => uN tY n.toNat from rfl, mW]
 have L := fun n => amx (n := n) (T := fun w st => kA (aO.mk 0 ([] : List aE) (bE.mk ([] : List Int) 0)) lim ([] : List Int) 0 st w) (LL := fun fu i st w => kT fu n i (aO.mk 0 ([] : List aE) (bE.mk ([] : List Int) 0)) lim ([] : List Int) 0 st w) (R := fun items => bU (mB 32 fP) fun used => bU fP fun last => lW (aO.mk lim items ⟨used, last⟩)) (G := GR x0 aD.mk) (B := BR x0 aD.mk) 128 (by decide) (apy hb) (fun w => by
  unfold kA
  refine cB (alC hb) fun used => ?_
  dsimp only
  refine cB (lT hb) fun last => ?_
  exact sN _) (fun fu i st w => by
  simp only [kT, qQ, Option.bind_assoc]
  rfl)
 refine acZ (fun n => 0 ≤ n ∧ n ≤ 32) (aaj hb 32) ac1 (fun n hn => ?_) fun n a e he => ?_
 ·exact (L n).1 hn.1 (by omega)
 ·exact (L n).2 a e he
theorem awF : tI = bU (oJ 16) fun c => bU (oJ 16) fun u => bU fP fun ex => bU fP fun un => bU fP fun dr => bU (mB 32 adZ) fun subs => bU (nP 256) fun n => bU (uN tO n.toNat) fun q => bU apT fun win => bU (mB 32 fP) fun ids => bU xJ fun set => bU (adm set) fun w =>
 lW ⟨c, u, false, 0, ex, un, dr, subs, q, win, ⟨ids⟩, w⟩ := by
 unfold tI apT
 simp only [mW, aob]
 simp only [show mB 256 tO = bU (nP 256) fun n => uN tO n.toNat from rfl, mW]
theorem amB {x0 : List Int} (hb : Buf x0) : match tI x0 with | .ok y q => GI fU y q (nI x0) | .er e _ => BI e (nI x0) := by
 have main : Aft x0 aD.mk tI (fun st =>
 Option.bind (cA st 16) fun r0 =>
 Option.bind (cA r0.2 16) fun r1 =>
 Option.bind (bP r1.2) fun r2 =>
 Option.bind (bP r2.2) fun r3 =>
 Option.bind (bP r3.2) fun r4 =>
 Option.bind (pJ r4.2) fun r5 =>
 Option.bind (dA r5.2 256) fun r6 =>
 iP fuel x0 r6.1 0 mI r6.2 r0.1 r1.1 false 0 r2.1 r3.1 r4.1 0 ([] : List aE) ([] : List Int) 0 ([] : List Int) false 0 ([] : Str) ([] : Str) 0 false 0 0 ([] : Str) 0 ([] : List aG) r5.1 ([] : List aC)) (GI fU) BI := by
  rw [awF]
  refine cB (uS hb 16 (by decide)) fun c => ?_
  dsimp only
  refine cB (uS hb 16 (by decide)) fun u => ?_
  dsimp only
  refine cB (lT hb) fun ex => ?_
  dsimp only
  refine cB (lT hb) fun un => ?_
  dsimp only
  refine cB (lT hb) fun dr => ?_
  dsimp only
  refine cB (asb hb) fun subs => ?_
  dsimp only
  have L := fun n => amx (n := n) (T := fun w st => kC x0 mI st c u false 0 ex un dr 0 ([] : List aE) ([] : List Int) 0 ([] : List Int) false 0 ([] : Str) ([] : Str) 0 false 0 0 ([] : Str) 0 ([] : List aG) subs w) (LL := fun fu i st w => iP fu x0 n i mI st c u false 0 ex un dr 0 ([] : List aE) ([] : List Int) 0 ([] : List Int) false 0 ([] : Str) ([] : Str) 0 false 0 0 ([] : Str) 0 ([] : List aG) subs w)
   (R := fun q => bU apT fun win => bU (mB 32 fP) fun ids => bU xJ fun set => bU (adm set) fun w => lW (aI.mk c u false 0 ex un dr subs q win ⟨ids⟩ w)) (G := GI fU) (B := BI) 112 (by decide) (ajd hb) (fun q => by
   unfold kC
   refine cB (auD hb) fun win => ?_
   dsimp only
   refine cB (alC hb) fun ids => ?_
   dsimp only
   refine ajf hb fun set => ?_
   dsimp only
   have tail : ∀ (b : Bool) (d : Int) (m : aC), Aft x0 aD.mk (lW (aI.mk c u false 0 ex un dr subs q win ⟨ids⟩ ⟨b, d, m⟩)) (fun st => iO x0 mI st c u false 0 ex un dr win.Limit win.Pool.Last b d m.Topic m.Payload m.Level m.Retain m.Priority m.Expires m.From m.Seq m.Props subs q win.Items win.Pool.Used ids) (GI fU) BI := fun b d m => by
    refine ⟨fun p hp => ?_, fun a e he => ?_⟩
    ·show GI _ _ _ _
     unfold GI
     dsimp only
     unfold iO iL kB
     rw [aL (by simp)]
     by_cases h : p = x0.length
     ·rw [aS (by simp; omega), if_pos ((abo hp).2 h), aL (by simp)]
      rfl
     ·rw [aL (by simp; omega), if_neg (fun h2 => h ((abo hp).1 h2)), aS (by simp), aL (by simp)]
      rfl
    ·dsimp only
     unfold iO iL kB
     rw [aS (zZ he), aS (zZ he), aL (wN he)]
     rfl
   cases hset : (set == 1) with
   | false => exact tail false 0 pS
   | true =>
    simp only [adm, eS]
    rw [mW]
    refine cB (lT hb) fun d => ?_
    dsimp only
    rw [mW]
    refine cB (ajd hb) fun m => ?_
    exact tail true d m) (fun fu i st w => by
   simp only [iP, pR, Option.bind_assoc])
  refine acZ (fun n => 0 ≤ n ∧ n ≤ 256) (aaj hb 256) ac1 (fun n hn => ?_) fun n a e he => ?_
  ·exact (L n).1 hn.1 (by omega)
  ·exact (L n).2 a e he
 have h := main.1 0 (by omega)
 rw [List.drop_zero] at h
 cases c : tI x0 with
 | ok y q => rw [c] at h; exact h
 | er e he => rw [c] at h; exact h
end Md
end PX
