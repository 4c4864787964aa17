import Derived.Test.YtahbfpamckocmaaGreatDoorRdC
set_option linter.unusedVariables false
set_option linter.unusedSimpArgs false
namespace PX
open Go
namespace Md
theorem pN {α β γ : Type} (r : Rd α) (f : α → Rd β) (g : β → Rd γ) : bN (bN r f) g = bN r fun x => bN (f x) g := by
 funext l
 unfold bN
 cases r l <;> rfl
theorem aiY {α β : Type} (x : α) (f : α → Rd β) : bN (lK x) f = f x := rfl
theorem aoz {α β : Type} (e : Int) (h : e ≠ 0) (f : α → Rd β) : bN (vY e h) f = vY e h := rfl
theorem alQ {α : Type} (r : Rd α) : bN r lK = r := by
 funext l
 unfold bN
 cases r l <;> rfl
def aiv {α : Type} (e : Int) (x : α) : Rd α := if h : e = 0 then lK x else vY e h
def afl : Rd aD := bN (mQ 16) fun k => bN (mQ 160) fun v => lK ⟨k, v⟩
def ac1 {β : Type} (k : aA → Rd β) : Rd β :=
 bN (mQ 64) fun t => bN (mQ 256) fun p => bN gC fun l => bN w8 fun r => bN gC fun pr => bN gC fun ex => bN (mQ 16) fun f => bN gC fun s => bN (oF 8) fun n => bN (qS afl n.toNat) fun ps => k ⟨t, p, l, r, pr, ex, f, s, ps⟩
def ais : Rd aA := ac1 lK
theorem akR {β : Type} (k : aA → Rd β) : ac1 k = bN ais k := by
 unfold ais ac1
 simp only [pN, aiY]
def pW : Rd aA := ac1 fun m => aiv (checkM m) m
theorem apz {β : Type} (f : Bool → Rd β) : bN w8 f = bN gC fun n => if (decide (0 ≤ n) && decide (n ≤ 1)) = true then f (n == 1) else vY 2 (by decide) := by
 unfold w8 y9
 simp only [pN]
 congr 1
 funext n
 by_cases c : n < 0 ∨ n ≥ 2
 ·rw [if_pos c, if_neg (by simp; omega), aoz]
 ·rw [if_neg c, if_pos (by simp; omega)]; rfl
theorem aiR {β : Type} (lim : Int) (f : Int → Rd β) : bN (oF lim) f = bN gC fun n => if (decide (n ≥ 0)) = true then (if (decide (n ≤ lim)) = true then f n else vY 5 (by decide)) else vY 2 (by decide) := by
 unfold oF
 simp only [pN]
 congr 1
 funext n
 by_cases c : n < 0
 ·rw [if_pos c, if_neg (by simpa using c)]; rfl
 ·rw [if_neg c, if_pos (show decide (n ≥ 0) = true by simpa using c)]
  by_cases d : n > lim
  ·rw [if_pos d, if_neg (by simpa using d)]; rfl
  ·rw [if_neg d, if_pos (by simpa using d)]; rfl
theorem apA (s : Str) : mH s = some (fE s) := by
 by_cases h : s.length < 1000000000000000
 ·exact ab6 s h
 ·unfold mH fE
  rw [aN (by simp; omega), aM (by simp; omega)]
  have : decide (s.length ≤ 16) = false := decide_eq_false (by omega)
  simp [this]
theorem afB (m : aA) : hI m = some (checkM m) := by
 simp only [hI, checkM, gL, akx, adA, apA, aaS, qC, aec, ag0, cS, dL, oT, ahm, ajZ, ag9, aU, acL, acQ, acj, ahz, ajV, abu, ajT, aj5]
theorem aeI {ρ β : Type} {x0 : List Int} {R : Rd β} {K : aL → Option ρ} {G : β → List Int → Option ρ → Prop} {B : Int → Option ρ → Prop} {b : Bool} {e : Int} {he : e ≠ 0}
  (h1 : b = true → Aft x0 aL.mk R K G B) (h2 : ∀ (a : Int) e', e' ≠ 0 → B e' (K ⟨x0, a, e'⟩)) : Aft x0 aL.mk (if b = true then R else vY e he) (fun st => Option.bind (cJ st b e) K) G B := by
 refine ⟨fun p hp => ?_, fun a e' he' => ?_⟩
 ·cases b with
  | true =>
   have := (h1 rfl).1 p hp
   rw [if_pos rfl]
   exact this
  | false => exact h2 p e he
 ·have : cJ ⟨x0, a, e'⟩ b e = some ⟨x0, a, e'⟩ := by
   unfold cJ
   rw [aN (aaG he')]
  dsimp only
  rw [this]
  exact h2 a e' he'
def GT {α : Type} (x0 : List Int) (y : α) (q : List Int) (o : Option (α × Int × Int)) : Prop := ∃ a : Nat, a ≤ x0.length ∧ x0.drop a = q ∧ o = some (y, (a : Int), 0)
def BT {α : Type} (z : α) (e : Int) (o : Option (α × Int × Int)) : Prop := o = some (z, 0, e)
theorem am7 {x0 : List Int} (hb : Buf x0) : pQ x0 aL.mk afl (fun st => Option.bind (bT st 16) fun r13 => Option.bind (bT r13.2 160) fun r14 => some ((aD.mk r13.1 r14.1), r14.2)) := by
 unfold afl
 refine dC (vX hb 16 (by decide)) fun k => ?_
 dsimp only
 refine dC (vX hb 160 (by decide)) fun v => ?_
 exact acD _
theorem apO {x0 : List Int} (hb : Buf x0) : ∀ p : Nat, p ≤ x0.length → zO x0 lP (pW (x0.drop p)) (oI x0 (p : Int)) := by
 have main : Aft x0 aL.mk pW (fun st =>
 Option.bind (bT st 64) fun r0 =>
 Option.bind (bT r0.2 256) fun r1 =>
 Option.bind (bS r1.2) fun r2 =>
 Option.bind (bS r2.2) fun r3 =>
 Option.bind (jB r3.1 1) fun r4 =>
 Option.bind (cJ r3.2 r4 2) fun r5 =>
 Option.bind (bS r5) fun r6 =>
 Option.bind (bS r6.2) fun r7 =>
 Option.bind (bT r7.2 16) fun r8 =>
 Option.bind (bS r8.2) fun r9 =>
 Option.bind (bS r9.2) fun r10 =>
 Option.bind (cJ r10.2 (decide (r10.1 ≥ 0)) 2) fun r11 =>
 Option.bind (cJ r11 (decide (r10.1 ≤ 8)) 5) fun r12 =>
 eP fuel r10.1 0 ((aA.mk ([] : Str) ([] : Str) 0 false 0 0 ([] : Str) 0 ([] : List aD))) r12 r0.1 r1.1 r2.1 (r3.1 == 1) r6.1 r7.1 r8.1 r9.1 ([] : List aD)) (GT x0) (BT lP) := by
  unfold pW ac1
  refine dC (vX hb 64 (by decide)) fun t => ?_
  dsimp only
  refine dC (vX hb 256 (by decide)) fun pl => ?_
  dsimp only
  refine dC (vI hb) fun lv => ?_
  dsimp only
  rw [apz]
  refine dC (vI hb) fun rt => ?_
  dsimp only
  have ei : jB rt 1 = some (decide (0 ≤ rt) && decide (rt ≤ 1)) := by
   unfold jB
   by_cases c : rt ≥ 0
   ·rw [aM (by simpa using c)]; simp [c]
   ·rw [aN (by simpa using c)]; simp [c]
  rw [ei]
  simp only [aU]
  have rest : Aft x0 aL.mk (bN gC fun pr => bN gC fun ex => bN (mQ 16) fun f => bN gC fun s => bN (oF 8) fun n => bN (qS afl n.toNat) fun ps => (fun m => aiv (checkM m) m) ⟨t, pl, lv, rt == 1, pr, ex, f, s, ps⟩) (fun r5 =>
    Option.bind (bS r5) fun r6 =>
    Option.bind (bS r6.2) fun r7 =>
    Option.bind (bT r7.2 16) fun r8 =>
    Option.bind (bS r8.2) fun r9 =>
    Option.bind (bS r9.2) fun r10 =>
    Option.bind (cJ r10.2 (decide (r10.1 ≥ 0)) 2) fun r11 =>
    Option.bind (cJ r11 (decide (r10.1 ≤ 8)) 5) fun r12 =>
    eP fuel r10.1 0 ((aA.mk ([] : Str) ([] : Str) 0 false 0 0 ([] : Str) 0 ([] : List aD))) r12 t pl lv (rt == 1) r6.1 r7.1 r8.1 r9.1 ([] : List aD)) (GT x0) (BT lP) := by
   refine dC (vI hb) fun pr => ?_
   dsimp only
   refine dC (vI hb) fun ex => ?_
   dsimp only
   refine dC (vX hb 16 (by decide)) fun fr => ?_
   dsimp only
   refine dC (vI hb) fun sq => ?_
   dsimp only
   rw [aiR]
   refine dC (vI hb) fun n => ?_
   dsimp only
   have tail : ∀ w : List aD, Aft x0 aL.mk ((fun m => aiv (checkM m) m) (aA.mk t pl lv (rt == 1) pr ex fr sq w)) (fun st => j2 lP st t pl lv (rt == 1) pr ex fr sq w) (GT x0) (BT lP) := fun w => by
    refine ⟨fun p hp => ?_, fun a e he => ?_⟩
    ·dsimp only
     unfold j2 mA
     rw [aM (by simp), afB, aU]
     unfold aiv
     by_cases c : checkM (aA.mk t pl lv (rt == 1) pr ex fr sq w) = 0
     ·rw [dif_pos c, aN (by simpa using c)]
      exact ⟨p, hp, rfl, rfl⟩
     ·rw [dif_neg c, aM (by simpa using c)]
      rfl
    ·dsimp only
     unfold j2 mA
     rw [aN (aaG he), aM (aaU he)]
     rfl
   have late : ∀ (a e : Int), e ≠ 0 → BT lP e (eP fuel n 0 lP ⟨x0, a, e⟩ t pl lv (rt == 1) pr ex fr sq ([] : List aD)) := fun a e he => by
    obtain ⟨fu, hfu⟩ : ∃ fu, fuel = fu + 1 := ⟨fuel - 1, by rw [fU]⟩
    rw [hfu, eP]
    have := (tail []).2 a e he
    by_cases c : (0 : Int) < n
    ·rw [aM (by simpa using c), aN (aaG he)]; exact this
    ·rw [aN (by simpa using c)]; exact this
   refine aeI (fun h0 => aeI (fun h8 => ?_) late) fun a e' he' => ?_
   ·have h0 : n ≥ 0 := by simpa using h0
    have h8 : n ≤ 8 := by simpa using h8
    refine ak9 (mk := aL.mk) (L := fun fu w st => eP fu n ((w.length : Nat) : Int) lP st t pl lv (rt == 1) pr ex fr sq w) (n := n.toNat) (am7 hb) tail ?_ ?_ ?_ n.toNat fuel [] (by simp) (by rw [fU]; omega)
    ·intro fu w a e hw
     rw [eP, aN (by simp; omega)]
    ·intro fu w a hw
     rw [eP, aM (by simp; omega), aM (by simp)]
     unfold rF
     simp only [Option.bind_assoc]
     cases h1 : bT ⟨x0, a, 0⟩ 16 with
     | none => rfl
     | some r13 =>
      simp only [aU]
      cases h2 : bT r13.2 160 with
      | none => rfl
      | some r14 =>
       simp only [aU]
       rw [aM (by simp; omega), cG (by omega)]
       simp
    ·intro fu w a e he
     rw [eP]
     by_cases c : ((w.length : Nat) : Int) < n
     ·rw [aM (by simpa using c), aN (aaG he)]
     ·rw [aN (by simpa using c)]
   ·have : cJ ⟨x0, a, e'⟩ (decide (n ≤ 8)) 5 = some ⟨x0, a, e'⟩ := by
     unfold cJ
     rw [aN (aaG he')]
    rw [this]
    exact late a e' he'
  exact aeI (fun _ => rest) rest.2
 intro p hp
 have := main.1 p hp
 unfold zO
 cases c : pW (x0.drop p) with
 | ok y q => rw [c] at this; exact this
 | er e he => rw [c] at this; exact this
end Md
end PX
