import Derived.Test.YtahbfpamckocmaaGreatDoorRdD
set_option linter.unusedVariables false
set_option linter.unusedSimpArgs false
namespace PX
open Go
namespace Md
def aen : Rd aG := bN (mQ 88) fun f => bN gC fun l => bN w8 fun n => lK ⟨f, l, n⟩
def vM : Rd aB := bN gC fun i => bN gC fun s => bN pW fun m => lK ⟨i, s, m⟩
def adi (b : Bool) : Rd aV := cond b (bN gC fun d => bN pW fun m => lK ⟨true, d, m⟩) (lK ⟨false, 0, lP⟩)
def rD : Rd aC :=
 bN (mQ 16) fun c => bN (mQ 16) fun u => bN gC fun ex => bN gC fun un => bN gC fun dr => bN (mS 32 aen) fun subs => bN (mS 256 pW) fun q => bN gC fun lim => bN (mS 32 vM) fun items => bN (mS 32 gC) fun used => bN gC fun last => bN (mS 32 gC) fun ids => bN w8 fun set => bN (adi set) fun w =>
 lK ⟨c, u, false, 0, ex, un, dr, subs, q, ⟨lim, items, ⟨used, last⟩⟩, ⟨ids⟩, w⟩
theorem aoK {x0 : List Int} (hb : Buf x0) : pQ x0 aE.mk aen j8 := by
 unfold aen j8
 refine dC (ac8 hb 88 (by decide)) fun f => ?_
 dsimp only
 refine dC (lI hb) fun l => ?_
 dsimp only
 refine dC (ahg hb) fun n => ?_
 exact acD _
theorem aeJ {x0 : List Int} (hb : Buf x0) : pQ x0 aE.mk pW dE :=
 rO (P := fun a => oI x0 a) (apO hb)
  (fun a v c x h hv => by subst hv; have h : oI x0 a = _ := h; unfold dE; rw [aN (by simp), h, aU, aN (by simp)])
  (fun a v c x h hv => ⟨lP, by have h : oI x0 a = _ := h; unfold dE; rw [aN (by simp), h, aU, aM (aaU hv)]⟩)
  (fun a e he => by unfold dE; rw [aM (aaU he)])
theorem akE {x0 : List Int} (hb : Buf x0) : pQ x0 aE.mk vM iY := by
 unfold vM iY
 refine dC (lI hb) fun i => ?_
 dsimp only
 refine dC (lI hb) fun s => ?_
 dsimp only
 refine dC (aeJ hb) fun m => ?_
 exact acD _
theorem aac {α : Type} {x0 : List Int} (hb : Buf x0) {lim : Int} (hl : lim ≤ 1000) {one : Rd α} {F : aE → Option (α × aE)} (hF : pQ x0 aE.mk one F) {sz : Nat} (hz : sz ≤ 1000)
  {LL : Nat → Int → aE → List α → Option (List α × aE)}
  (e : ∀ fu n st w, LL (fu + 1) n st w = cond (decide ((w.length : Int) < n)) (cond (st.err == 0) (Option.bind (F st) fun r1 => cond (decide ((w.length + [r1.1].length) * sz ≤ 140737488355328)) (LL fu n r1.2 (w ++ [r1.1])) none) (some (w, st))) (some (w, st))) :
  pQ x0 aE.mk (mS lim one) (fun st => Option.bind (bJ st) fun r0 =>
   cond (r0.2.err != 0) (some ([], r0.2)) (cond (decide (r0.1 < 0)) (some ([], (aE.mk r0.2.b r0.2.at_ 2))) (cond (decide (r0.1 > lim)) (some ([], (aE.mk r0.2.b r0.2.at_ 5))) (LL fuel r0.1 r0.2 ([] : List α))))) := by
 unfold mS
 rw [aiR]
 refine dC (lI hb) fun n => ?_
 dsimp only
 have late : ∀ (a e : Int), e ≠ 0 → BR x0 aE.mk e (cond (e != 0) (some (([] : List α), aE.mk x0 a e)) (cond (decide (n < 0)) (some ([], (aE.mk x0 a 2))) (cond (decide (n > lim)) (some ([], (aE.mk x0 a 5))) (LL fuel n ⟨x0, a, e⟩ ([] : List α))))) := fun a e he => by
  rw [aM (aaU he)]; exact ⟨_, _, rfl⟩
 refine ⟨fun p hp => ?_, late⟩
 dsimp only
 rw [aN (by simp)]
 by_cases c : n < 0
 ·rw [if_neg (by simpa using c), aM (by simpa using c)]
  exact ⟨_, _, rfl⟩
 ·rw [if_pos (by simpa using c), aN (by simpa using c)]
  by_cases d : n > lim
  ·rw [if_neg (by simpa using d), aM (by simpa using d)]
   exact ⟨_, _, rfl⟩
  ·rw [if_pos (by simpa using d), aN (by simpa using d)]
   have := (ak9 (mk := aE.mk) (L := fun fu w st => LL fu n st w) (T := fun w st => some (w, st)) (n := n.toNat) (R := fun w => lK w) hF (fun w => acD w) ?_ ?_ ?_ n.toNat fuel [] (by simp) (by rw [fU]; omega)).1 p hp
   ·have e2 : (bN (qS one n.toNat) fun r => lK (([] : List α) ++ r)) = qS one n.toNat := alQ _
    rw [e2] at this
    exact this
   ·intro fu w a e' hw
    rw [e, aN (by simp; omega)]
   ·intro fu w a hw
    rw [e, aM (by simp; omega), aM (by simp)]
    congr 1
    funext r
    have hs : (w.length + [r.1].length) * sz ≤ (w.length + 1) * 1000 := Nat.mul_le_mul_left _ hz
    rw [aM (by simp only [decide_eq_true_eq]; omega)]
   ·intro fu w a e' he
    rw [e]
    by_cases c : ((w.length : Nat) : Int) < n
    ·rw [aM (by simpa using c), aN (aaG he)]
    ·rw [aN (by simpa using c)]
theorem anb {x0 : List Int} (hb : Buf x0) : pQ x0 aE.mk (mS 32 aen) (fun st => j5 st 32) :=
 aac hb (by decide) (aoK hb) (sz := 32) (by decide) (LL := iK) fun _ _ _ _ => rfl
theorem ane {x0 : List Int} (hb : Buf x0) : pQ x0 aE.mk (mS 256 pW) (fun st => iM st 256) :=
 aac hb (by decide) (aeJ hb) (sz := 112) (by decide) (LL := gK) fun _ _ _ _ => rfl
theorem aju {x0 : List Int} (hb : Buf x0) : pQ x0 aE.mk (mS 32 vM) (fun st => iT st 32) :=
 aac hb (by decide) (akE hb) (sz := 128) (by decide) (LL := gT) fun _ _ _ _ => rfl
theorem agT {x0 : List Int} (hb : Buf x0) : pQ x0 aE.mk (mS 32 gC) (fun st => jK st 32) :=
 aac hb (by decide) (lI hb) (sz := 8) (by decide) (LL := kE) fun _ _ _ _ => rfl
def oK : aC := (aC.mk ([] : Str) ([] : Str) false 0 0 0 0 ([] : List aG) ([] : List aA) (aH.mk 0 ([] : List aB) (aQ.mk ([] : List Int) 0)) (bG.mk ([] : List Int)) (aV.mk false 0 (aA.mk ([] : Str) ([] : Str) 0 false 0 0 ([] : Str) 0 ([] : List aD))))
def GI (C : aC → Option Int) (y : aC) (q : List Int) (o : Option (aC × Int)) : Prop := o = if q = [] then Option.bind (C y) fun r => cond (r != 0) (some (oK, r)) (some (y, 0)) else some (oK, 2)
def BI (e : Int) (o : Option (aC × Int)) : Prop := o = some (oK, e)
theorem aem {x0 : List Int} {p : Nat} (hp : p ≤ x0.length) : (x0.drop p = []) ↔ p = x0.length := by
 rw [List.drop_eq_nil_iff]; omega
theorem ame {x0 : List Int} (hb : Buf x0) : match rD x0 with | .ok y q => GI hJ y q (oA x0) | .er e _ => BI e (oA x0) := by
 have main : Aft x0 aE.mk rD (fun st =>
 Option.bind (dK st 16) fun r0 =>
 Option.bind (dK r0.2 16) fun r1 =>
 Option.bind (bJ r1.2) fun r2 =>
 Option.bind (bJ r2.2) fun r3 =>
 Option.bind (bJ r3.2) fun r4 =>
 Option.bind (j5 r4.2 32) fun r5 =>
 Option.bind (iM r5.2 256) fun r6 =>
 Option.bind (bJ r6.2) fun r7 =>
 Option.bind (iT r7.2 32) fun r8 =>
 Option.bind (jK r8.2 32) fun r9 =>
 Option.bind (bJ r9.2) fun r10 =>
 Option.bind (jK r10.2 32) fun r11 =>
 Option.bind (gB r11.2) fun r12 =>
 cond r12.1 (
  Option.bind (bJ r12.2) fun r13 =>
  Option.bind (dE r13.2) fun r14 =>
  fX x0 oK r14.2 r0.1 r1.1 false 0 r2.1 r3.1 r4.1 r7.1 r10.1 r12.1 r13.1 r14.1.Topic r14.1.Payload r14.1.Level r14.1.Retain r14.1.Priority r14.1.Expires r14.1.From r14.1.Seq r5.1 r6.1 r8.1 r9.1 r11.1 r14.1.Props) (
 fX x0 oK r12.2 r0.1 r1.1 false 0 r2.1 r3.1 r4.1 r7.1 r10.1 r12.1 0 ([] : Str) ([] : Str) 0 false 0 0 ([] : Str) 0 r5.1 r6.1 r8.1 r9.1 r11.1 ([] : List aD))) (GI hJ) BI := by
  unfold rD
  refine dC (ac8 hb 16 (by decide)) fun c => ?_
  dsimp only
  refine dC (ac8 hb 16 (by decide)) fun u => ?_
  dsimp only
  refine dC (lI hb) fun ex => ?_
  dsimp only
  refine dC (lI hb) fun un => ?_
  dsimp only
  refine dC (lI hb) fun dr => ?_
  dsimp only
  refine dC (anb hb) fun subs => ?_
  dsimp only
  refine dC (ane hb) fun q => ?_
  dsimp only
  refine dC (lI hb) fun lim => ?_
  dsimp only
  refine dC (aju hb) fun items => ?_
  dsimp only
  refine dC (agT hb) fun used => ?_
  dsimp only
  refine dC (lI hb) fun last => ?_
  dsimp only
  refine dC (agT hb) fun ids => ?_
  dsimp only
  refine dC (ahg hb) fun set => ?_
  dsimp only
  have tail : ∀ (d : Int) (m : aA), Aft x0 aE.mk (lK (aC.mk c u false 0 ex un dr subs q ⟨lim, items, ⟨used, last⟩⟩ ⟨ids⟩ ⟨set, d, m⟩)) (fun st => fX x0 oK st c u false 0 ex un dr lim last set d m.Topic m.Payload m.Level m.Retain m.Priority m.Expires m.From m.Seq subs q items used ids m.Props) (GI hJ) BI := fun d m => by
   refine ⟨fun p hp => ?_, fun a e he => ?_⟩
   ·show GI _ _ _ _
    unfold GI
    dsimp only
    unfold fX iW
    rw [aM (by simp)]
    by_cases h : p = x0.length
    ·rw [aN (by simp; omega), if_pos ((aem hp).2 h), aN (by simp)]
     rfl
    ·rw [aM (by simp; omega), if_neg (fun h2 => h ((aem hp).1 h2)), aM (by simp)]
     rfl
   ·dsimp only
    unfold fX iW
    rw [aN (aaG he), aM (aaU he)]
    rfl
  cases set with
  | false => exact tail 0 lP
  | true =>
   simp only [adi, cS]
   rw [pN]
   refine dC (lI hb) fun d => ?_
   dsimp only
   rw [pN]
   refine dC (aeJ hb) fun m => ?_
   exact tail d m
 have h := main.1 0 (by omega)
 rw [List.drop_zero] at h
 cases c : rD x0 with
 | ok y q => rw [c] at h; exact h
 | er e he => rw [c] at h; exact h
end Md
end PX
