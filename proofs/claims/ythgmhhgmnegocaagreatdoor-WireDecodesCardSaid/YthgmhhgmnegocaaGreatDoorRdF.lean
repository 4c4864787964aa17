import Derived.Test.YthgmhhgmnegocaaGreatDoorRdE
set_option linter.unusedVariables false
set_option linter.unusedSimpArgs false
namespace PX
open Go
namespace Md
theorem anW {ρ α β : Type} {x0 : List Int} {one : Rd α} {F : aE → Option (α × aE)} {R : List α → Rd β} {n : Int} {G : β → List Int → Option ρ → Prop} {B : Int → Option ρ → Prop} {T : List α → aE → Option ρ}
  {LL : Nat → Int → aE → List α → Option ρ} (sz : Nat) (hz : sz ≤ 1000) (hF : rG x0 aE.mk one F) (hT : ∀ w, Aft x0 aE.mk (R w) (fun st => T w st) G B)
  (e : ∀ fu i st w, LL (fu + 1) i st w = cond (decide (i < n)) (cond (st.E == 0) (Option.bind (F st) fun r1 => cond (decide ((w.length + [r1.1].length) * sz ≤ 140737488355328)) (LL fu (IntKind.wrap .i64 (i + 1)) r1.2 (w ++ [r1.1])) none) (T w st)) (T w st)) :
  (0 ≤ n → n ≤ 1000 → Aft x0 aE.mk (bQ (sC one n.toNat) R) (fun st => LL fuel 0 st []) G B) ∧ (∀ (a e' : Int), e' ≠ 0 → B e' (LL fuel 0 ⟨x0, a, e'⟩ [])) := by
 have late : ∀ fu (i : Int) w (a e' : Int), e' ≠ 0 → LL (fu + 1) i ⟨x0, a, e'⟩ w = T w ⟨x0, a, e'⟩ := fun fu i w a e' he => by
  rw [e]
  by_cases c : i < n
  ·rw [aL (by simpa using c), aQ (al6 he)]
  ·rw [aQ (by simpa using c)]
 refine ⟨fun h0 h1 => ?_, fun a e' he => ?_⟩
 ·refine aup (mk := aE.mk) (L := fun fu w st => LL fu ((w.length : Nat) : Int) st w) (T := T) (n := n.toNat) hF hT ?_ ?_ ?_ n.toNat fuel [] (by simp) (by rw [iX]; omega)
  ·intro fu w a e' hw
   rw [e, aQ (by simp; omega)]
  ·intro fu w a hw
   rw [e, aL (by simp; omega), aL (by simp)]
   congr 1
   funext r
   have hs : (w.length + [r.1].length) * sz ≤ (w.length + 1) * 1000 := Nat.mul_le_mul_left _ hz
   rw [aL (by simp only [decide_eq_true_eq]; omega), cD (by omega)]
   simp
  ·intro fu w a e' he
   exact late _ _ _ _ _ he
 ·obtain ⟨fu, hfu⟩ : ∃ fu, fuel = fu + 1 := ⟨fuel - 1, by rw [iX]⟩
  rw [hfu, late _ _ _ _ _ he]
  exact (hT []).2 a e' he
theorem aeJ {ρ β : Type} {x0 : List Int} (hb : Buf x0) {R2 : Bool → Rd β} {K : Int × aE → Option ρ} {G : β → List Int → Option ρ → Prop} {B : Int → Option ρ → Prop} (h : ∀ x, Aft x0 aE.mk (R2 (x == 1)) (fun st => K (x, st)) G B) :
  Aft x0 aE.mk (bQ yD R2) (fun st => Option.bind (dB st 2) K) G B := by
 unfold yD
 rw [tI]
 exact dR (ajJ hb 2) h
theorem arO {x0 : List Int} (hb : Buf x0) : rG x0 aE.mk afa (fun st => Option.bind (bZ st 16) fun r13 => Option.bind (bZ r13.2 160) fun r14 => some ((aC.mk r13.1 r14.1), r14.2)) := by
 unfold afa
 refine dR (qC hb 16 (by decide)) fun k => ?_
 dsimp only
 refine dR (qC hb 160 (by decide)) fun v => ?_
 exact kK _
theorem ahP {x0 : List Int} (hb : Buf x0) : rG x0 aE.mk zW eW := by
 unfold zW ac0 eW
 refine dR (qC hb 64 (by decide)) fun t => ?_
 dsimp only
 refine dR (qC hb 256 (by decide)) fun pl => ?_
 dsimp only
 refine dR (fJ hb) fun lv => ?_
 dsimp only
 refine aeJ hb fun rt => ?_
 dsimp only
 refine dR (fJ hb) fun pr => ?_
 dsimp only
 refine dR (fJ hb) fun ex => ?_
 dsimp only
 refine dR (qC hb 16 (by decide)) fun fr => ?_
 dsimp only
 refine dR (fJ hb) fun sq => ?_
 dsimp only
 have L := fun n => anW (n := n) (T := fun w st => some (aF.mk t pl lv (rt == 1) pr ex fr sq w, st)) (LL := fun fu i st w => eY fu n i zeroM t pl lv (rt == 1) pr ex fr sq st w) (R := fun ps => eU (aF.mk t pl lv (rt == 1) pr ex fr sq ps)) 32 (by decide) (arO hb) (fun w => kK _) (fun fu i st w => by
  simp only [eY, iZ, Option.bind_assoc]
  rfl)
 refine anj (fun n => 0 ≤ n ∧ n ≤ 8) (aj2 hb 8) ae6 (fun n hn => ?_) fun n a e he => ?_
 ·exact (L n).1 hn.1 (by omega)
 ·exact (L n).2 a e he
theorem asG {x0 : List Int} (hb : Buf x0) : rG x0 aE.mk adw (fun st => Option.bind (bZ st 88) fun r1 => Option.bind (bO r1.2) fun r2 => Option.bind (dB r2.2 2) fun r3 => some ((aH.mk r1.1 r2.1 (r3.1 == 1)), r3.2)) := by
 unfold adw
 refine dR (qC hb 88 (by decide)) fun f => ?_
 dsimp only
 refine dR (fJ hb) fun l => ?_
 dsimp only
 refine aeJ hb fun n => ?_
 exact kK _
end Md
end PX
