import Derived.Test.YtmcpanmcgpjfiaaGreatDoorRdD
set_option linter.unusedVariables false
set_option linter.unusedSimpArgs false
namespace PX
open Go
namespace Md
def adZ : Rd aK := bU (oJ 88) fun f => bU fP fun l => bU xJ fun n => lW ⟨f, l, n⟩
def tY : Rd aE := bU fP fun i => bU fP fun s => bU tO fun m => lW ⟨i, s, m⟩
def adm (b : Bool) : Rd bM := cond b (bU fP fun d => bU tO fun m => lW ⟨true, d, m⟩) (lW ⟨false, 0, pS⟩)
def tI : Rd aI :=
 bU (oJ 16) fun c => bU (oJ 16) fun u => bU fP fun ex => bU fP fun un => bU fP fun dr => bU (mB 32 adZ) fun subs => bU (mB 256 tO) fun q => bU fP fun lim => bU (mB 32 tY) fun items => bU (mB 32 fP) fun used => bU fP fun last => bU (mB 32 fP) fun ids => bU xJ fun set => bU (adm set) fun w =>
 lW ⟨c, u, false, 0, ex, un, dr, subs, q, ⟨lim, items, ⟨used, last⟩⟩, ⟨ids⟩, w⟩
theorem auN {x0 : List Int} (hb : Buf x0) : mG x0 aH.mk adZ nM := by
 unfold adZ nM
 refine cB (ahs hb 88 (by decide)) fun f => ?_
 dsimp only
 refine cB (oW hb) fun l => ?_
 dsimp only
 refine cB (alQ hb) fun n => ?_
 exact sN _
theorem ajF {x0 : List Int} (hb : Buf x0) : mG x0 aH.mk tO dY :=
 oU (P := fun a => sR x0 a) (av1 hb)
  (fun a v c x h hv => by subst hv; have h : sR x0 a = _ := h; unfold dY; rw [aS (by simp), h, aY, aS (by simp)])
  (fun a v c x h hv => ⟨pS, by have h : sR x0 a = _ := h; unfold dY; rw [aS (by simp), h, aY, aL (wN hv)]⟩)
  (fun a e he => by unfold dY; rw [aL (wN he)])
theorem apV {x0 : List Int} (hb : Buf x0) : mG x0 aH.mk tY lB := by
 unfold tY lB
 refine cB (oW hb) fun i => ?_
 dsimp only
 refine cB (oW hb) fun s => ?_
 dsimp only
 refine cB (ajF hb) fun m => ?_
 exact sN _
theorem adC {α : Type} {x0 : List Int} (hb : Buf x0) {lim : Int} (hl : lim ≤ 1000) {one : Rd α} {F : aH → Option (α × aH)} (hF : mG x0 aH.mk one F) {sz : Nat} (hz : sz ≤ 1000)
  {LL : Nat → Int → aH → List α → Option (List α × aH)}
  (e : ∀ fu n st w, LL (fu + 1) n st w = cond (decide ((w.length : Int) < n)) (cond (st.err == 0) (Option.bind (F st) fun r1 => cond (decide ((w.length + [r1.1].length) * sz ≤ 140737488355328)) (LL fu n r1.2 (w ++ [r1.1])) none) (some (w, st))) (some (w, st))) :
  mG x0 aH.mk (mB lim one) (fun st => Option.bind (bT st) fun r0 =>
   cond (r0.2.err != 0) (some ([], r0.2)) (cond (decide (r0.1 < 0)) (some ([], (aH.mk r0.2.b r0.2.at_ 2))) (cond (decide (r0.1 > lim)) (some ([], (aH.mk r0.2.b r0.2.at_ 5))) (LL fuel r0.1 r0.2 ([] : List α))))) := by
 unfold mB
 rw [anH]
 refine cB (oW hb) fun n => ?_
 dsimp only
 have late : ∀ (a e : Int), e ≠ 0 → BR x0 aH.mk e (cond (e != 0) (some (([] : List α), aH.mk x0 a e)) (cond (decide (n < 0)) (some ([], (aH.mk x0 a 2))) (cond (decide (n > lim)) (some ([], (aH.mk x0 a 5))) (LL fuel n ⟨x0, a, e⟩ ([] : List α))))) := fun a e he => by
  rw [aL (wN he)]; exact ⟨_, _, rfl⟩
 refine ⟨fun p hp => ?_, late⟩
 dsimp only
 rw [aS (by simp)]
 by_cases c : n < 0
 ·rw [if_neg (by simpa using c), aL (by simpa using c)]
  exact ⟨_, _, rfl⟩
 ·rw [if_pos (by simpa using c), aS (by simpa using c)]
  by_cases d : n > lim
  ·rw [if_neg (by simpa using d), aL (by simpa using d)]
   exact ⟨_, _, rfl⟩
  ·rw [if_pos (by simpa using d), aS (by simpa using d)]
   have := (akE (mk := aH.mk) (L := fun fu w st => LL fu n st w) (T := fun w st => some (w, st)) (n := n.toNat) (R := fun w => lW w) hF (fun w => sN w) ?_ ?_ ?_ n.toNat fuel [] (by simp) (by rw [hY]; omega)).1 p hp
   ·have e2 : (bU (uN one n.toNat) fun r => lW (([] : List α) ++ r)) = uN one n.toNat := af3 _
    rw [e2] at this
    exact this
   ·intro fu w a e' hw
    rw [e, aS (by simp; omega)]
   ·intro fu w a hw
    rw [e, aL (by simp; omega), aL (by simp)]
    congr 1
    funext r
    have hs : (w.length + [r.1].length) * sz ≤ (w.length + 1) * 1000 := Nat.mul_le_mul_left _ hz
    rw [aL (by simp only [decide_eq_true_eq]; omega)]
   ·intro fu w a e' he
    rw [e]
    by_cases c : ((w.length : Nat) : Int) < n
    ·rw [aL (by simpa using c), aS (zZ he)]
    ·rw [aS (by simpa using c)]
theorem asE {x0 : List Int} (hb : Buf x0) : mG x0 aH.mk (mB 32 adZ) (fun st => nG st 32) :=
 adC hb (by decide) (auN hb) (sz := 32) (by decide) (LL := kQ) fun _ _ _ _ => rfl
theorem asU {x0 : List Int} (hb : Buf x0) : mG x0 aH.mk (mB 256 tO) (fun st => kR st 256) :=
 adC hb (by decide) (ajF hb) (sz := 112) (by decide) (LL := iY) fun _ _ _ _ => rfl
theorem aog {x0 : List Int} (hb : Buf x0) : mG x0 aH.mk (mB 32 tY) (fun st => lO st 32) :=
 adC hb (by decide) (apV hb) (sz := 128) (by decide) (LL := jI) fun _ _ _ _ => rfl
theorem alr {x0 : List Int} (hb : Buf x0) : mG x0 aH.mk (mB 32 fP) (fun st => mK st 32) :=
 adC hb (by decide) (oW hb) (sz := 8) (by decide) (LL := nD) fun _ _ _ _ => rfl
def mI : aI := (aI.mk ([] : Str) ([] : Str) false 0 0 0 0 ([] : List aK) ([] : List aC) (aO.mk 0 ([] : List aE) (bE.mk ([] : List Int) 0)) (bO.mk ([] : List Int)) (bM.mk false 0 (aC.mk ([] : Str) ([] : Str) 0 false 0 0 ([] : Str) 0 ([] : List aG))))
def GI (C : aI → Option Int) (y : aI) (q : List Int) (o : Option (aI × Int)) : Prop := o = if q = [] then Option.bind (C y) fun r => cond (r != 0) (some (mI, r)) (some (y, 0)) else some (mI, 2)
def BI (e : Int) (o : Option (aI × Int)) : Prop := o = some (mI, e)
theorem abo {x0 : List Int} {p : Nat} (hp : p ≤ x0.length) : (x0.drop p = []) ↔ p = x0.length := by
 rw [List.drop_eq_nil_iff]; omega
theorem arZ {x0 : List Int} (hb : Buf x0) : match tI x0 with | .ok y q => GI m6 y q (jF x0) | .er e _ => BI e (jF x0) := by
 have main : Aft x0 aH.mk tI (fun st =>
 Option.bind (eE st 16) fun r0 =>
 Option.bind (eE r0.2 16) fun r1 =>
 Option.bind (bT r1.2) fun r2 =>
 Option.bind (bT r2.2) fun r3 =>
 Option.bind (bT r3.2) fun r4 =>
 Option.bind (nG r4.2 32) fun r5 =>
 Option.bind (kR r5.2 256) fun r6 =>
 Option.bind (bT r6.2) fun r7 =>
 Option.bind (lO r7.2 32) fun r8 =>
 Option.bind (mK r8.2 32) fun r9 =>
 Option.bind (bT r9.2) fun r10 =>
 Option.bind (mK r10.2 32) fun r11 =>
 Option.bind (iK r11.2) fun r12 =>
 cond r12.1 (
  Option.bind (bT r12.2) fun r13 =>
  Option.bind (dY r13.2) fun r14 =>
  iE x0 mI r14.2 r0.1 r1.1 false 0 r2.1 r3.1 r4.1 r7.1 r10.1 r12.1 r13.1 r14.1.Topic r14.1.Payload r14.1.Level r14.1.Retain r14.1.Priority r14.1.Expires r14.1.From r14.1.Seq r5.1 r6.1 r8.1 r9.1 r11.1 r14.1.Props) (
 iE x0 mI r12.2 r0.1 r1.1 false 0 r2.1 r3.1 r4.1 r7.1 r10.1 r12.1 0 ([] : Str) ([] : Str) 0 false 0 0 ([] : Str) 0 r5.1 r6.1 r8.1 r9.1 r11.1 ([] : List aG))) (GI m6) BI := by
  unfold tI
  refine cB (ahs hb 16 (by decide)) fun c => ?_
  dsimp only
  refine cB (ahs hb 16 (by decide)) fun u => ?_
  dsimp only
  refine cB (oW hb) fun ex => ?_
  dsimp only
  refine cB (oW hb) fun un => ?_
  dsimp only
  refine cB (oW hb) fun dr => ?_
  dsimp only
  refine cB (asE hb) fun subs => ?_
  dsimp only
  refine cB (asU hb) fun q => ?_
  dsimp only
  refine cB (oW hb) fun lim => ?_
  dsimp only
  refine cB (aog hb) fun items => ?_
  dsimp only
  refine cB (alr hb) fun used => ?_
  dsimp only
  refine cB (oW hb) fun last => ?_
  dsimp only
  refine cB (alr hb) fun ids => ?_
  dsimp only
  refine cB (alQ hb) fun set => ?_
  dsimp only
  have tail : ∀ (d : Int) (m : aC), Aft x0 aH.mk (lW (aI.mk c u false 0 ex un dr subs q ⟨lim, items, ⟨used, last⟩⟩ ⟨ids⟩ ⟨set, d, m⟩)) (fun st => iE x0 mI st c u false 0 ex un dr lim last set d m.Topic m.Payload m.Level m.Retain m.Priority m.Expires m.From m.Seq subs q items used ids m.Props) (GI m6) BI := fun d m => by
   refine ⟨fun p hp => ?_, fun a e he => ?_⟩
   ·show GI _ _ _ _
    unfold GI
    dsimp only
    unfold iE lA
    rw [aL (by simp)]
    by_cases h : p = x0.length
    ·rw [aS (by simp; omega), if_pos ((abo hp).2 h), aS (by simp)]
     rfl
    ·rw [aL (by simp; omega), if_neg (fun h2 => h ((abo hp).1 h2)), aL (by simp)]
     rfl
   ·dsimp only
    unfold iE lA
    rw [aS (zZ he), aL (wN he)]
    rfl
  cases set with
  | false => exact tail 0 pS
  | true =>
   simp only [adm, eS]
   rw [mW]
   refine cB (oW hb) fun d => ?_
   dsimp only
   rw [mW]
   refine cB (ajF hb) fun m => ?_
   exact tail d m
 have h := main.1 0 (by omega)
 rw [List.drop_zero] at h
 cases c : tI x0 with
 | ok y q => rw [c] at h; exact h
 | er e he => rw [c] at h; exact h
end Md
end PX
