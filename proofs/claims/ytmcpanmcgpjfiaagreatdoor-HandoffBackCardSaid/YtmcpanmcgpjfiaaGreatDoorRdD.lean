import Derived.Test.YtmcpanmcgpjfiaaGreatDoorRdC
set_option linter.unusedVariables false
set_option linter.unusedSimpArgs false
namespace PX
open Go
namespace Md
theorem mW {α β γ : Type} (r : Rd α) (f : α → Rd β) (g : β → Rd γ) : bU (bU r f) g = bU r fun x => bU (f x) g := by
 funext l
 unfold bU
 cases r l <;> rfl
theorem aob {α β : Type} (x : α) (f : α → Rd β) : bU (lW x) f = f x := rfl
theorem aud {α β : Type} (e : Int) (h : e ≠ 0) (f : α → Rd β) : bU (abK e h) f = abK e h := rfl
theorem af3 {α : Type} (r : Rd α) : bU r lW = r := by
 funext l
 unfold bU
 cases r l <;> rfl
def alf {α : Type} (e : Int) (x : α) : Rd α := if h : e = 0 then lW x else abK e h
def ae5 : Rd aG := bU (oJ 16) fun k => bU (oJ 160) fun v => lW ⟨k, v⟩
def ae7 {β : Type} (k : aC → Rd β) : Rd β :=
 bU (oJ 64) fun t => bU (oJ 256) fun p => bU fP fun l => bU xJ fun r => bU fP fun pr => bU fP fun ex => bU (oJ 16) fun f => bU fP fun s => bU (nP 8) fun n => bU (uN ae5 n.toNat) fun ps => k ⟨t, p, l, r, pr, ex, f, s, ps⟩
def ajH : Rd aC := ae7 lW
theorem ak5 {β : Type} (k : aC → Rd β) : ae7 k = bU ajH k := by
 unfold ajH ae7
 simp only [mW, aob]
def tO : Rd aC := ae7 fun m => alf (checkM m) m
theorem awi {β : Type} (f : Bool → Rd β) : bU xJ f = bU fP fun n => if (decide (0 ≤ n) && decide (n ≤ 1)) = true then f (n == 1) else abK 2 (by decide) := by
 unfold xJ aag
 simp only [mW]
 congr 1
 funext n
 by_cases c : n < 0 ∨ n ≥ 2
 ·rw [if_pos c, if_neg (by simp; omega), aud]
 ·rw [if_neg c, if_pos (by simp; omega)]; rfl
theorem anH {β : Type} (lim : Int) (f : Int → Rd β) : bU (nP lim) f = bU fP fun n => if (decide (n ≥ 0)) = true then (if (decide (n ≤ lim)) = true then f n else abK 5 (by decide)) else abK 2 (by decide) := by
 unfold nP
 simp only [mW]
 congr 1
 funext n
 by_cases c : n < 0
 ·rw [if_pos c, if_neg (by simpa using c)]; rfl
 ·rw [if_neg c, if_pos (show decide (n ≥ 0) = true by simpa using c)]
  by_cases d : n > lim
  ·rw [if_pos d, if_neg (by simpa using d)]; rfl
  ·rw [if_neg d, if_pos (by simpa using d)]; rfl
theorem au5 (s : Str) : m5 s = some (gS s) := by
 by_cases h : s.length < 1000000000000000
 ·exact adL s h
 ·unfold m5 gS
  rw [aS (by simp; omega), aL (by simp; omega)]
  have : decide (s.length ≤ 16) = false := decide_eq_false (by omega)
  simp [this]
theorem aj9 (m : aC) : lU m = some (checkM m) := by
 simp only [lU, checkM, cS, aqy, ahS, au5, aek, lN, aai, acC, eS, eW, iH, adz, ae1, acJ, aY, yW, wI, zH, adH, afg, vC, afd, afn]
theorem ajh {ρ β : Type} {x0 : List Int} {R : Rd β} {K : aN → Option ρ} {G : β → List Int → Option ρ → Prop} {B : Int → Option ρ → Prop} {b : Bool} {e : Int} {he : e ≠ 0}
  (h1 : b = true → Aft x0 aN.mk R K G B) (h2 : ∀ (a : Int) e', e' ≠ 0 → B e' (K ⟨x0, a, e'⟩)) : Aft x0 aN.mk (if b = true then R else abK e he) (fun st => Option.bind (c7 st b e) K) G B := by
 refine ⟨fun p hp => ?_, fun a e' he' => ?_⟩
 ·cases b with
  | true =>
   have := (h1 rfl).1 p hp
   rw [if_pos rfl]
   exact this
  | false => exact h2 p e he
 ·have : c7 ⟨x0, a, e'⟩ b e = some ⟨x0, a, e'⟩ := by
   unfold c7
   rw [aS (zZ he')]
  dsimp only
  rw [this]
  exact h2 a e' he'
def GT {α : Type} (x0 : List Int) (y : α) (q : List Int) (o : Option (α × Int × Int)) : Prop := ∃ a : Nat, a ≤ x0.length ∧ x0.drop a = q ∧ o = some (y, (a : Int), 0)
def BT {α : Type} (z : α) (e : Int) (o : Option (α × Int × Int)) : Prop := o = some (z, 0, e)
theorem asi {x0 : List Int} (hb : Buf x0) : mG x0 aN.mk ae5 (fun st => Option.bind (cK st 16) fun r13 => Option.bind (cK r13.2 160) fun r14 => some ((aG.mk r13.1 r14.1), r14.2)) := by
 unfold ae5
 refine cB (abD hb 16 (by decide)) fun k => ?_
 dsimp only
 refine cB (abD hb 160 (by decide)) fun v => ?_
 exact sN _
theorem av1 {x0 : List Int} (hb : Buf x0) : ∀ p : Nat, p ≤ x0.length → v5 x0 pS (tO (x0.drop p)) (sR x0 (p : Int)) := by
 have main : Aft x0 aN.mk tO (fun st =>
 Option.bind (cK st 64) fun r0 =>
 Option.bind (cK r0.2 256) fun r1 =>
 Option.bind (cG r1.2) fun r2 =>
 Option.bind (cG r2.2) fun r3 =>
 Option.bind (lY r3.1 1) fun r4 =>
 Option.bind (c7 r3.2 r4 2) fun r5 =>
 Option.bind (cG r5) fun r6 =>
 Option.bind (cG r6.2) fun r7 =>
 Option.bind (cK r7.2 16) fun r8 =>
 Option.bind (cG r8.2) fun r9 =>
 Option.bind (cG r9.2) fun r10 =>
 Option.bind (c7 r10.2 (decide (r10.1 ≥ 0)) 2) fun r11 =>
 Option.bind (c7 r11 (decide (r10.1 ≤ 8)) 5) fun r12 =>
 fN fuel r10.1 0 ((aC.mk ([] : Str) ([] : Str) 0 false 0 0 ([] : Str) 0 ([] : List aG))) r12 r0.1 r1.1 r2.1 (r3.1 == 1) r6.1 r7.1 r8.1 r9.1 ([] : List aG)) (GT x0) (BT pS) := by
  unfold tO ae7
  refine cB (abD hb 64 (by decide)) fun t => ?_
  dsimp only
  refine cB (abD hb 256 (by decide)) fun pl => ?_
  dsimp only
  refine cB (aa2 hb) fun lv => ?_
  dsimp only
  rw [awi]
  refine cB (aa2 hb) fun rt => ?_
  dsimp only
  have ei : lY rt 1 = some (decide (0 ≤ rt) && decide (rt ≤ 1)) := by
   unfold lY
   by_cases c : rt ≥ 0
   ·rw [aL (by simpa using c)]; simp [c]
   ·rw [aS (by simpa using c)]; simp [c]
  rw [ei]
  simp only [aY]
  have rest : Aft x0 aN.mk (bU fP fun pr => bU fP fun ex => bU (oJ 16) fun f => bU fP fun s => bU (nP 8) fun n => bU (uN ae5 n.toNat) fun ps => (fun m => alf (checkM m) m) ⟨t, pl, lv, rt == 1, pr, ex, f, s, ps⟩) (fun r5 =>
    Option.bind (cG r5) fun r6 =>
    Option.bind (cG r6.2) fun r7 =>
    Option.bind (cK r7.2 16) fun r8 =>
    Option.bind (cG r8.2) fun r9 =>
    Option.bind (cG r9.2) fun r10 =>
    Option.bind (c7 r10.2 (decide (r10.1 ≥ 0)) 2) fun r11 =>
    Option.bind (c7 r11 (decide (r10.1 ≤ 8)) 5) fun r12 =>
    fN fuel r10.1 0 ((aC.mk ([] : Str) ([] : Str) 0 false 0 0 ([] : Str) 0 ([] : List aG))) r12 t pl lv (rt == 1) r6.1 r7.1 r8.1 r9.1 ([] : List aG)) (GT x0) (BT pS) := by
   refine cB (aa2 hb) fun pr => ?_
   dsimp only
   refine cB (aa2 hb) fun ex => ?_
   dsimp only
   refine cB (abD hb 16 (by decide)) fun fr => ?_
   dsimp only
   refine cB (aa2 hb) fun sq => ?_
   dsimp only
   rw [anH]
   refine cB (aa2 hb) fun n => ?_
   dsimp only
   have tail : ∀ w : List aG, Aft x0 aN.mk ((fun m => alf (checkM m) m) (aC.mk t pl lv (rt == 1) pr ex fr sq w)) (fun st => nA pS st t pl lv (rt == 1) pr ex fr sq w) (GT x0) (BT pS) := fun w => by
    refine ⟨fun p hp => ?_, fun a e he => ?_⟩
    ·dsimp only
     unfold nA pF
     rw [aL (by simp), aj9, aY]
     unfold alf
     by_cases c : checkM (aC.mk t pl lv (rt == 1) pr ex fr sq w) = 0
     ·rw [dif_pos c, aS (by simpa using c)]
      exact ⟨p, hp, rfl, rfl⟩
     ·rw [dif_neg c, aL (by simpa using c)]
      rfl
    ·dsimp only
     unfold nA pF
     rw [aS (zZ he), aL (wN he)]
     rfl
   have late : ∀ (a e : Int), e ≠ 0 → BT pS e (fN fuel n 0 pS ⟨x0, a, e⟩ t pl lv (rt == 1) pr ex fr sq ([] : List aG)) := fun a e he => by
    obtain ⟨fu, hfu⟩ : ∃ fu, fuel = fu + 1 := ⟨fuel - 1, by rw [hY]⟩
    rw [hfu, fN]
    have := (tail []).2 a e he
    by_cases c : (0 : Int) < n
    ·rw [aL (by simpa using c), aS (zZ he)]; exact this
    ·rw [aS (by simpa using c)]; exact this
   refine ajh (fun h0 => ajh (fun h8 => ?_) late) fun a e' he' => ?_
   ·have h0 : n ≥ 0 := by simpa using h0
    have h8 : n ≤ 8 := by simpa using h8
    refine akE (mk := aN.mk) (L := fun fu w st => fN fu n ((w.length : Nat) : Int) pS st t pl lv (rt == 1) pr ex fr sq w) (n := n.toNat) (asi hb) tail ?_ ?_ ?_ n.toNat fuel [] (by simp) (by rw [hY]; omega)
    ·intro fu w a e hw
     rw [fN, aS (by simp; omega)]
    ·intro fu w a hw
     rw [fN, aL (by simp; omega), aL (by simp)]
     unfold wB
     simp only [Option.bind_assoc]
     cases h1 : cK ⟨x0, a, 0⟩ 16 with
     | none => rfl
     | some r13 =>
      simp only [aY]
      cases h2 : cK r13.2 160 with
      | none => rfl
      | some r14 =>
       simp only [aY]
       rw [aL (by simp; omega), cF (by omega)]
       simp
    ·intro fu w a e he
     rw [fN]
     by_cases c : ((w.length : Nat) : Int) < n
     ·rw [aL (by simpa using c), aS (zZ he)]
     ·rw [aS (by simpa using c)]
   ·have : c7 ⟨x0, a, e'⟩ (decide (n ≤ 8)) 5 = some ⟨x0, a, e'⟩ := by
     unfold c7
     rw [aS (zZ he')]
    rw [this]
    exact late a e' he'
  exact ajh (fun _ => rest) rest.2
 intro p hp
 have := main.1 p hp
 unfold v5
 cases c : tO (x0.drop p) with
 | ok y q => rw [c] at this; exact this
 | er e he => rw [c] at this; exact this
end Md
end PX
