import Derived.Test.YthgmhhgmnegocaaGreatDoorWdB
set_option linter.unusedVariables false
set_option linter.unusedSimpArgs false
namespace PX
open Go
namespace Md
theorem aok (x : Int) : kE x 0 = some (fl0 x) := by
 have e : IntKind.wrap .u64 0 = 0 := by rw [rR]; rfl
 unfold kE fl0
 rw [e]; rfl
theorem aoD (x : Int) : kE x 1 = some (fl1 x) := by
 have e : IntKind.wrap .u64 1 = 1 := by rw [rR]; rfl
 unfold kE fl1
 rw [e]; rfl
theorem anF {x0 : List Int} (hb : Buf x0) : rG x0 aE.mk afi (fun st => kQ st (pk 1 0 false zeroM false 0 [] [] [])) := by
 unfold afi kQ
 refine dR (qC hb 16 (by decide)) fun c => ?_
 dsimp only
 refine dR (qC hb 16 (by decide)) fun u => ?_
 dsimp only
 refine dR (ajJ hb 4) fun f => ?_
 dsimp only
 simp only [aok, aoD, aU]
 refine dR (fJ hb) fun k => ?_
 dsimp only
 refine dR (fJ hb) fun e => ?_
 dsimp only
 refine dR (fJ hb) fun w => ?_
 dsimp only
 cases hs : fl1 f with
 | false =>
  simp only [jB]
  exact kK _
 | true =>
  simp only [gZ]
  have main : Aft x0 aE.mk (bQ iL fun d => bQ zW fun m => eU (akB c u (fl0 f) k e w true d m)) (fun st => Option.bind (bO st) fun r8 => Option.bind (eW r8.2) fun r9 => some (akB c u (fl0 f) k e w true r8.1 r9.1, r9.2)) (GR x0 aE.mk) (BR x0 aE.mk) := by
   refine dR (fJ hb) fun d => ?_
   dsimp only
   refine dR (ahP hb) fun m => ?_
   exact kK _
  refine ⟨fun p hp => ?_, fun a e he => ⟨_, a, by dsimp only; rw [aQ (al6 he)]⟩⟩
  have := main.1 p hp
  dsimp only
  rw [aL (by simp)]
  exact this
theorem afp {α : Type} {x0 : List Int} (hb : Buf x0) {one : Rd α} {f : List α → aA} {LL : Int → aE → Option (aA × aE)}
  (h : ∀ n, (0 ≤ n → n ≤ 1000 → rG x0 aE.mk (bQ (sC one n.toNat) fun l => eU (f l)) (LL n)) ∧ (∀ (a e' : Int), e' ≠ 0 → BR x0 aE.mk e' (LL n ⟨x0, a, e'⟩))) :
  rG x0 aE.mk (bQ (sB 32 one) fun l => eU (f l)) (fun st => Option.bind (dW st 32) fun r0 => LL r0.1 r0.2) := by
 unfold sB
 rw [tI]
 exact anj (fun n => 0 ≤ n ∧ n ≤ 32) (aj2 hb 32) ae6 (fun n hn => (h n).1 hn.1 (by omega)) fun n a e he => (h n).2 a e he
theorem arz {x0 : List Int} (hb : Buf x0) (id : Int) : rG x0 aE.mk (bQ (sB 32 adw) fun l => eU (pk 8 id false zeroM false 0 l [] [])) (fun st => fM st (pk 8 id false zeroM false 0 [] [] [])) := by
 unfold fM
 refine afp hb (LL := fun n st => cW fuel n 0 (pk 8 id false zeroM false 0 [] [] []) (pk 0 0 false zeroM false 0 [] [] []) 8 id false [] [] 0 false 0 0 [] 0 [] [] [] false 0 0 0 false 0 [] [] 0 false 0 0 [] 0 [] false 0 st [] [] []) fun n => ?_
 exact anW (n := n) (G := GR x0 aE.mk) (B := BR x0 aE.mk) (T := fun w st => some (pk 8 id false zeroM false 0 w [] [], st)) (LL := fun fu i st w => cW fu n i (pk 8 id false zeroM false 0 [] [] []) (pk 0 0 false zeroM false 0 [] [] []) 8 id false [] [] 0 false 0 0 [] 0 [] [] [] false 0 0 0 false 0 [] [] 0 false 0 0 [] 0 [] false 0 st w [] []) (R := fun l => eU (pk 8 id false zeroM false 0 l [] [])) 32 (by decide) (asG hb) (fun w => kK _) (fun fu i st w => by
  simp only [cW, iS, Option.bind_assoc, Int.reduceBEq, gZ, jB, aU]
  try rfl)
theorem apT {x0 : List Int} (hb : Buf x0) (id : Int) : rG x0 aE.mk (bQ (sB 32 (gK 88)) fun l => eU (pk 10 id false zeroM false 0 [] l [])) (fun st => fM st (pk 10 id false zeroM false 0 [] [] [])) := by
 unfold fM
 refine afp hb (LL := fun n st => cW fuel n 0 (pk 10 id false zeroM false 0 [] [] []) (pk 0 0 false zeroM false 0 [] [] []) 10 id false [] [] 0 false 0 0 [] 0 [] [] [] false 0 0 0 false 0 [] [] 0 false 0 0 [] 0 [] false 0 st [] [] []) fun n => ?_
 exact anW (n := n) (G := GR x0 aE.mk) (B := BR x0 aE.mk) (T := fun w st => some (pk 10 id false zeroM false 0 [] w [], st)) (LL := fun fu i st w => cW fu n i (pk 10 id false zeroM false 0 [] [] []) (pk 0 0 false zeroM false 0 [] [] []) 10 id false [] [] 0 false 0 0 [] 0 [] [] [] false 0 0 0 false 0 [] [] 0 false 0 0 [] 0 [] false 0 st [] w []) (R := fun l => eU (pk 10 id false zeroM false 0 [] l [])) 16 (by decide) (qC hb 88 (by decide)) (fun w => kK _) (fun fu i st w => by
  simp only [cW, iS, Int.reduceBEq, gZ, jB]
  try rfl)
theorem ajF {x0 : List Int} (hb : Buf x0) (k id : Int) (k8 : (k == 8) = false) (k10 : (k == 10) = false) : rG x0 aE.mk (bQ (sB 32 iL) fun l => eU (pk k id false zeroM false 0 [] [] l)) (fun st => fM st (pk k id false zeroM false 0 [] [] [])) := by
 unfold fM
 refine afp hb (LL := fun n st => cW fuel n 0 (pk k id false zeroM false 0 [] [] []) (pk 0 0 false zeroM false 0 [] [] []) k id false [] [] 0 false 0 0 [] 0 [] [] [] false 0 0 0 false 0 [] [] 0 false 0 0 [] 0 [] false 0 st [] [] []) fun n => ?_
 exact anW (n := n) (G := GR x0 aE.mk) (B := BR x0 aE.mk) (T := fun w st => some (pk k id false zeroM false 0 [] [] w, st)) (LL := fun fu i st w => cW fu n i (pk k id false zeroM false 0 [] [] []) (pk 0 0 false zeroM false 0 [] [] []) k id false [] [] 0 false 0 0 [] 0 [] [] [] false 0 0 0 false 0 [] [] 0 false 0 0 [] 0 [] false 0 st [] [] w) (R := fun l => eU (pk k id false zeroM false 0 [] [] l)) 8 (by decide) (fJ hb) (fun w => kK _) (fun fu i st w => by
  simp only [cW, iS, k8, k10, gZ, jB]
  try rfl)
theorem aoj {x0 : List Int} {R : Rd aA} {F : aE → Option (aA × aE)} (h : rG x0 aE.mk R F) : rG x0 aE.mk R (fun st => Option.bind (F st) fun r => some (r.1, r.2)) := by
 have : (fun st => Option.bind (F st) fun r => some (r.1, r.2)) = F := by
  funext st
  cases F st <;> rfl
 rw [this]; exact h
theorem aoL {x0 : List Int} (hb : Buf x0) {k : Int} (hk : rngB 1 14 k = true) : rG x0 aE.mk (ads k) (fun st => rP st k) := by
 unfold ads rP qD
 rcases pQ hk with rfl | rfl | rfl | rfl | rfl | rfl | rfl | rfl | rfl | rfl | rfl | rfl | rfl | rfl <;> simp only [Int.reduceBEq, Int.reduceLE, decide_true, decide_false, gZ, jB, Bool.or_false, Bool.or_true, Bool.false_or, Bool.true_or]
 ·exact aoj (anF hb)
 ·refine aeJ hb fun f => ?_
  dsimp only
  refine dR (fJ hb) fun c => ?_
  exact kK _
 ·refine dR (fJ hb) fun i => ?_
  dsimp only
  refine aeJ hb fun f => ?_
  dsimp only
  refine dR (ahP hb) fun m => ?_
  exact kK _
 ·exact dR (fJ hb) fun i => kK _
 ·exact dR (fJ hb) fun i => kK _
 ·exact dR (fJ hb) fun i => kK _
 ·exact dR (fJ hb) fun i => kK _
 ·exact dR (fJ hb) fun i => aoj (arz hb i)
 ·exact dR (fJ hb) fun i => aoj (ajF hb 9 i rfl rfl)
 ·exact dR (fJ hb) fun i => aoj (apT hb i)
 ·exact dR (fJ hb) fun i => aoj (ajF hb 11 i rfl rfl)
 ·exact kK _
 ·exact kK _
 ·exact dR (fJ hb) fun i => kK _
abbrev iP : aA := pk 0 0 false zeroM false 0 [] [] []
def aa0 : Rd aA := bQ iL fun k => if rngB 1 14 k = true then ads k else aaD 10 (by decide)
def al3 (y : aA) (q : List Int) : aA × Int := if q = [] then (if jK y = 0 then (y, 0) else (iP, jK y)) else (iP, 2)
def w3 (x0 : List Int) : aA × Int := if x0.length > 4096 then (iP, 5) else match aa0 x0 with | .ok y q => al3 y q | .er e _ => (iP, e)
def GD (y : aA) (q : List Int) (o : Option (aA × Int)) : Prop := y.good → o = some (al3 y q)
def BD (e : Int) (o : Option (aA × Int)) : Prop := o = some (iP, e)
theorem aeY {x0 : List Int} {p : Nat} (hp : p ≤ x0.length) : (x0.drop p = []) ↔ p = x0.length := by
 rw [List.drop_eq_nil_iff]; omega
theorem aom {x0 : List Int} (hb : Buf x0) (h : x0.length ≤ 4096) : match aa0 x0 with | .ok y q => GD y q (kL x0) | .er e _ => BD e (kL x0) := by
 have tail : ∀ y : aA, abf x0 (eU y) (fun st => cA (eK (decide (st.at_ < (List.length x0 : Int))) 2) (fun e7 => some (iP, e7.code)) fun _ =>
   Option.bind (kJ y) fun r8 => cA (eK (r8 != 0) r8) (fun e10 => some (iP, e10.code)) fun _ => some (y, 0)) GD BD := fun y p hp hg => by
  unfold al3
  dsimp only
  by_cases c : p = x0.length
  ·rw [if_pos ((aeY hp).2 c), show decide ((p : Int) < (List.length x0 : Int)) = false by simp; omega, ayH, aeP y hg, aU]
   by_cases d : jK y = 0
   ·rw [if_pos d, d]; rfl
   ·rw [if_neg d, aaY d]; rfl
  ·rw [if_neg (fun e => c ((aeY hp).1 e)), show decide ((p : Int) < (List.length x0 : Int)) = true by simp; omega]; rfl
 have main : abf x0 aa0 (fun st => cA (bS st) (fun e1 => some (iP, e1.code)) fun r0 =>
   cond (decide (r0.1 < 1)) (
    cA (eK true 10) (fun e3 => some (iP, e3.code)) fun r2 =>
    cA (fX r0.2 r0.1) (fun e5 => some (iP, e5.code)) fun r4 =>
    cA (eK (decide (r4.2.at_ < (List.length x0 : Int))) 2) (fun e7 => some (iP, e7.code)) fun r6 =>
    Option.bind (kJ r4.1) fun r8 =>
    cA (eK (r8 != 0) r8) (fun e10 => some (iP, e10.code)) fun r9 =>
    some (r4.1, 0)) (
   cA (eK (decide (r0.1 > 14)) 10) (fun e12 => some (iP, e12.code)) fun r11 =>
   cA (fX r0.2 r0.1) (fun e14 => some (iP, e14.code)) fun r13 =>
   cA (eK (decide (r13.2.at_ < (List.length x0 : Int))) 2) (fun e16 => some (iP, e16.code)) fun r15 =>
   Option.bind (kJ r13.1) fun r17 =>
   cA (eK (r17 != 0) r17) (fun e19 => some (iP, e19.code)) fun r18 =>
   some (r13.1, 0))) GD BD := by
  unfold aa0
  refine cR (fA hb) (fun k => ?_) fun _ _ => rfl
  dsimp only
  by_cases c1 : k < 1
  ·rw [if_neg (by rw [mY]; omega)]
   intro p hp
   show _ = _
   dsimp only
   rw [aL (by simpa using c1)]; rfl
  ·by_cases c2 : k > 14
   ·rw [if_neg (by rw [mY]; omega)]
    intro p hp
    show _ = _
    dsimp only
    rw [aQ (by simpa using c1), show decide (k > 14) = true by simpa using c2]; rfl
   ·rw [if_pos (by rw [mY]; omega)]
    have := cR (G := GD) (B := BD) (R2 := fun y => eU y) (Kp := fun e : aN => some (iP, e.code)) (K := fun r13 => cA (eK (decide (r13.2.at_ < (List.length x0 : Int))) 2) (fun e7 => some (iP, e7.code)) fun _ =>
   Option.bind (kJ r13.1) fun r8 => cA (eK (r8 != 0) r8) (fun e10 => some (iP, e10.code)) fun _ => some (r13.1, 0)) (aoZ hb (k := k) (by rw [mY]; omega)) tail fun _ _ => rfl
    rw [tH] at this
    intro p hp
    have := this p hp
    dsimp only
    rw [aQ (by simpa using c1), show decide (k > 14) = false by simpa using c2]
    exact this
 have := main 0 (by omega)
 rw [List.drop_zero] at this
 unfold kL
 rw [aQ (by simp; omega)]
 cases c : aa0 x0 with
 | ok y q => rw [c] at this; exact this
 | er e he => rw [c] at this; exact this
theorem ao0 {x0 : List Int} (hb : Buf x0) (h : x0.length ≤ 4096) : match aa0 x0 with | .ok y q => GD y q (hZ x0) | .er e _ => BD e (hZ x0) := by
 have tail : ∀ y : aA, Aft x0 aE.mk (eU y) (fun st => cond (st.E == 0) (
   cond (decide (st.At < (List.length x0 : Int))) (
    dL iP (aE.mk st.B st.At 2) y) (
   dL iP st y)) (
  dL iP st y)) GD BD := fun y => by
  refine ⟨fun p hp hg => ?_, fun a e he => ?_⟩
  ·unfold al3
   dsimp only
   rw [aL (by simp)]
   unfold dL jO
   by_cases c : p = x0.length
   ·rw [if_pos ((aeY hp).2 c), aQ (by simp; omega), aL (by simp), zL y hg, aU]
    by_cases d : jK y = 0
    ·rw [if_pos d, d]; rfl
    ·rw [if_neg d, aL (aaY d)]
   ·rw [if_neg (fun e => c ((aeY hp).1 e)), aL (by simp; omega)]; rfl
  ·show _ = _
   dsimp only
   unfold dL jO
   rw [aQ (al6 he), aQ (al6 he), aL (aaY he)]
 have j7 : ∀ (k a e : Int), e ≠ 0 → dP x0 k iP ⟨x0, a, e⟩ = some (iP, e) := fun k a e he => by
  unfold dP
  rw [aL (aaY he)]
 have main : Aft x0 aE.mk aa0 (fun st => Option.bind (bO st) fun r0 =>
 cond (r0.2.E == 0) (
  cond (decide (r0.1 < 1)) (
   dP x0 r0.1 iP (aE.mk r0.2.B r0.2.At 10)) (
  cond (decide (r0.1 > 14)) (
   dP x0 r0.1 iP (aE.mk r0.2.B r0.2.At 10)) (
  dP x0 r0.1 iP r0.2))) (
 dP x0 r0.1 iP r0.2)) GD BD := by
  unfold aa0
  refine dR (fJ hb) fun k => ?_
  dsimp only
  refine ⟨fun p hp => ?_, fun a e he => by dsimp only; rw [aQ (al6 he)]; exact j7 _ _ _ he⟩
  dsimp only
  rw [aL (by simp)]
  by_cases c1 : k < 1
  ·rw [if_neg (by rw [mY]; omega), aL (by simpa using c1)]
   exact j7 _ _ _ (by decide)
  ·rw [aQ (by simpa using c1)]
   by_cases c2 : k > 14
   ·rw [if_neg (by rw [mY]; omega), aL (by simpa using c2)]
    exact j7 _ _ _ (by decide)
   ·rw [if_pos (by rw [mY]; omega), aQ (by simpa using c2)]
    have := dR (G := GD) (B := BD) (R2 := fun y => eU y) (K := fun r : aA × aE => cond (r.2.E == 0) (
   cond (decide (r.2.At < (List.length x0 : Int))) (
    dL iP (aE.mk r.2.B r.2.At 2) r.1) (
   dL iP r.2 r.1)) (
  dL iP r.2 r.1)) (aoL hb (k := k) (by rw [mY]; omega)) tail
    rw [tH] at this
    have := this.1 p hp
    unfold dP
    rw [aQ (by simp)]
    exact this
 have := main.1 0 (by omega)
 rw [List.drop_zero] at this
 unfold hZ
 rw [aQ (by simp; omega)]
 cases c : aa0 x0 with
 | ok y q => rw [c] at this; exact this
 | er e he => rw [c] at this; exact this
end Md
end PX
