import Derived.Test.YthgmhhgmnegocaaDoorWrC
set_option linter.unusedVariables false
set_option linter.unusedSimpArgs false
namespace PX
open Go
namespace Md
def uP {ρ β : Type} (x0 : List Int) (R : Rd β) (K : aE → Option ρ) (G : β → List Int → Option ρ → Prop) (B : Int → Option ρ → Prop) : Prop :=
 ∀ p : Nat, p ≤ x0.length → match R (x0.drop p) with | .ok y q => G y q (K ⟨x0, p⟩) | .er e _ => B e (K ⟨x0, p⟩)
def GP {α : Type} (x0 : List Int) (y : α) (q : List Int) (o : Option (aI ⊕ (α × aE))) : Prop := ∃ a : Nat, a ≤ x0.length ∧ x0.drop a = q ∧ o = some (.inr (y, ⟨x0, a⟩))
def BP {α : Type} (e : Int) (o : Option (aI ⊕ (α × aE))) : Prop := o = some (.inl ⟨e⟩)
abbrev kJ {α : Type} (x0 : List Int) (R : Rd α) (F : aE → Option (aI ⊕ (α × aE))) : Prop := uP x0 R F (GP x0) BP
theorem dP {α : Type} {x0 : List Int} (x : α) : kJ x0 (eC x) (fun st => some (.inr (x, st))) := fun p hp => ⟨p, hp, rfl, rfl⟩
theorem abM {ρ α β : Type} {x0 : List Int} {R1 : Rd α} {R2 : α → Rd β} {F : aE → Option (aI ⊕ (α × aE))} {Kp : aI → Option ρ} {K : α × aE → Option ρ} {G : β → List Int → Option ρ → Prop} {B : Int → Option ρ → Prop} (D : α → Prop)
  (h1 : kJ x0 R1 F) (hD : ∀ l x q, R1 l = .ok x q → D x) (h2 : ∀ x, D x → uP x0 (R2 x) (fun st => K (x, st)) G B) (h3 : ∀ e, e ≠ 0 → B e (Kp ⟨e⟩)) : uP x0 (bH R1 R2) (fun st => bK (F st) Kp K) G B := by
 intro p hp
 have h := h1 p hp
 unfold bH
 cases c : R1 (x0.drop p) with
 | ok y q =>
  rw [c] at h
  obtain ⟨a, ha, hq, ho⟩ := h
  dsimp only
  rw [ho, ← hq]
  exact h2 y (hD _ _ _ c) a ha
 | er e he =>
  rw [c] at h
  dsimp only
  have h : F ⟨x0, p⟩ = _ := h
  rw [h]
  exact h3 e he
theorem bY {ρ α β : Type} {x0 : List Int} {R1 : Rd α} {R2 : α → Rd β} {F : aE → Option (aI ⊕ (α × aE))} {Kp : aI → Option ρ} {K : α × aE → Option ρ} {G : β → List Int → Option ρ → Prop} {B : Int → Option ρ → Prop}
  (h1 : kJ x0 R1 F) (h2 : ∀ x, uP x0 (R2 x) (fun st => K (x, st)) G B) (h3 : ∀ e, e ≠ 0 → B e (Kp ⟨e⟩)) : uP x0 (bH R1 R2) (fun st => bK (F st) Kp K) G B :=
 abM (fun _ => True) h1 (fun _ _ _ _ => trivial) (fun x _ => h2 x) h3
theorem apL {ρ : Type} (e : Int) (kp : aI → Option ρ) (k : Unit → Option ρ) : bK (cX false e) kp k = k () := rfl
theorem aa7 {α : Type} {x0 : List Int} {R : Rd α} {z : α} {P : Int → Option (α × Int × Int)} (h : ∀ p : Nat, p ≤ x0.length → rX x0 z (R (x0.drop p)) (P p)) :
  kJ x0 R (fun st => Option.bind (P st.at_) fun r0 => bK (cX (r0.2.2 != 0) r0.2.2) (fun e2 => some (.inl e2)) fun r1 => some (.inr (r0.1, (aE.mk x0 r0.2.1)))) := by
 intro p hp
 have := h p hp
 unfold rX at this
 cases c : R (x0.drop p) with
 | ok v q =>
  rw [c] at this
  obtain ⟨a, h1, h2, h3⟩ := this
  refine ⟨a, h1, h2, ?_⟩
  dsimp only
  rw [h3]; rfl
 | er e he =>
  rw [c] at this
  have this : P p = _ := this
  show Option.bind (P p) _ = _
  rw [this, aX]
  dsimp only
  rw [ank he]; rfl
theorem dJ {x0 : List Int} (hb : Buf x0) : kJ x0 gJ bD := fun p hp => aa7 (abq hb) p hp
theorem lI {x0 : List Int} (hb : Buf x0) (lim : Int) (hl : lim ≤ 9223372036854775807) : kJ x0 (fJ lim) (fun st => cD st lim) := fun p hp => aa7 (P := fun a => qF x0 a lim) (aer hb lim hl) p hp
theorem ad0 {x0 : List Int} (hb : Buf x0) (lim : Int) : kJ x0 (pX lim) (fun st => cV st lim) := by
 unfold pX cV
 refine bY (dJ hb) (fun n => ?_) fun _ _ => rfl
 dsimp only
 by_cases c : n < 0
 ·rw [if_pos (.inl c)]
  intro p hp
  show _ = _
  dsimp only
  rw [aK (by simpa using c)]; rfl
 ·by_cases d : n ≥ lim
  ·rw [if_pos (.inr d)]
   intro p hp
   show _ = _
   dsimp only
   rw [aO (by simpa using c), show decide (n ≥ lim) = true by simpa using d]; rfl
  ·rw [if_neg (by omega)]
   intro p hp
   refine ⟨p, hp, rfl, ?_⟩
   dsimp only
   rw [aO (by simpa using c), show decide (n ≥ lim) = false by simpa using d]; rfl
theorem aef {x0 : List Int} (hb : Buf x0) (lim : Int) : kJ x0 (jP lim) (fun st => fG st lim) := by
 unfold jP fG
 refine bY (dJ hb) (fun n => ?_) fun _ _ => rfl
 dsimp only
 by_cases c : n < 0
 ·rw [if_pos c]
  intro p hp
  show _ = _
  dsimp only
  rw [show decide (n < 0) = true by simpa using c]; rfl
 ·rw [if_neg c]
  by_cases d : n > lim
  ·rw [if_pos d]
   intro p hp
   show _ = _
   dsimp only
   rw [show decide (n < 0) = false by simpa using c, show decide (n > lim) = true by simpa using d]; rfl
  ·rw [if_neg d]
   intro p hp
   refine ⟨p, hp, rfl, ?_⟩
   dsimp only
   rw [show decide (n < 0) = false by simpa using c, show decide (n > lim) = false by simpa using d]; rfl
theorem zQ {ρ β : Type} {x0 : List Int} (hb : Buf x0) {R2 : Bool → Rd β} {Kp : aI → Option ρ} {K : Int × aE → Option ρ} {G : β → List Int → Option ρ → Prop} {B : Int → Option ρ → Prop} (h : ∀ x, uP x0 (R2 (x == 1)) (fun st => K (x, st)) G B) (h3 : ∀ e, e ≠ 0 → B e (Kp ⟨e⟩)) :
  uP x0 (bH tJ R2) (fun st => bK (cV st 2) Kp K) G B := by
 unfold tJ
 rw [rF]
 exact bY (ad0 hb 2) h h3
theorem alB {ρ α β : Type} {x0 : List Int} {one : Rd α} {F : aE → Option (aI ⊕ (α × aE))} {R : List α → Rd β} {L : Nat → List α → aE → Option ρ} {T : List α → aE → Option ρ} {Kp : aI → Option ρ} {n : Nat} {G : β → List Int → Option ρ → Prop} {B : Int → Option ρ → Prop}
  (hF : kJ x0 one F) (hT : ∀ w, uP x0 (R w) (fun st => T w st) G B) (hB : ∀ e, e ≠ 0 → B e (Kp ⟨e⟩))
  (h0 : ∀ fu w (a : Int), w.length = n → L (fu + 1) w ⟨x0, a⟩ = T w ⟨x0, a⟩)
  (h1 : ∀ fu w (a : Int), w.length < n → L (fu + 1) w ⟨x0, a⟩ = bK (F ⟨x0, a⟩) Kp fun r => L fu (w ++ [r.1]) r.2) :
  ∀ k fu w, w.length + k = n → k < fu → uP x0 (bH (nB one k) fun r => R (w ++ r)) (fun st => L fu w st) G B := by
 intro k
 induction k with
 | zero =>
  intro fu w hn hf
  obtain ⟨fu, rfl⟩ : ∃ n, fu = n + 1 := ⟨fu - 1, by omega⟩
  intro p hp
  have := hT w p hp
  show match R (w ++ []) (x0.drop p) with | .ok y q => _ | .er e _ => _
  dsimp only
  rw [List.append_nil, h0 fu w p (by omega)]
  exact this
 | succ k ih =>
  intro fu w hn hf
  obtain ⟨fu, rfl⟩ : ∃ n, fu = n + 1 := ⟨fu - 1, by omega⟩
  intro p hp
  have h := hF p hp
  dsimp only
  rw [h1 fu w p (by omega)]
  unfold bH nB
  unfold bH
  cases c : one (x0.drop p) with
  | ok y q =>
   rw [c] at h
   obtain ⟨a, ha, hq, ho⟩ := h
   rw [ho, ← hq]
   have := ih fu (w ++ [y]) (by simp; omega) (by omega) a ha
   unfold bH at this
   dsimp only [bK] at this ⊢
   cases d : nB one k (x0.drop a) with
   | ok z q2 =>
    rw [d] at this
    dsimp only [eC] at this ⊢
    rw [List.append_assoc] at this
    exact this
   | er e he =>
    rw [d] at this
    exact this
  | er e he =>
   rw [c] at h
   have h : F ⟨x0, p⟩ = _ := h
   dsimp only
   rw [h]
   exact hB e he
theorem ad1 {Q R S U : Type} (x : Option (Q ⊕ R)) (f : R → Option (Q ⊕ S)) (kp : Q → Option U) (k : S → Option U) : bK (bK x (fun e => some (.inl e)) f) kp k = bK x kp fun r => bK (f r) kp k := by
 cases x with
 | none => rfl
 | some y => cases y <;> rfl
theorem afY {Q R S : Type} (r : R) (kp : Q → Option S) (k : R → Option S) : bK (some (.inr r)) kp k = k r := rfl
theorem akT {x0 : List Int} (hb : Buf x0) : kJ x0 adv (fun st => bK (cD st 16) (fun e => some (.inl e)) fun r13 => bK (cD r13.2 160) (fun e => some (.inl e)) fun r14 => some (.inr ((aB.mk r13.1 r14.1), r14.2))) := by
 unfold adv
 refine bY (lI hb 16 (by decide)) (fun k => ?_) fun _ _ => rfl
 dsimp only
 refine bY (lI hb 160 (by decide)) (fun v => ?_) fun _ _ => rfl
 exact dP _
theorem ahX {ρ α β : Type} {x0 : List Int} {one : Rd α} {F : aE → Option (aI ⊕ (α × aE))} {R : List α → Rd β} {n : Int} {G : β → List Int → Option ρ → Prop} {B : Int → Option ρ → Prop} {T : List α → aE → Option ρ} {Kp : aI → Option ρ}
  {LL : Nat → Int → aE → List α → Option ρ} (sz : Nat) (hz : sz ≤ 1000) (hF : kJ x0 one F) (hT : ∀ w, uP x0 (R w) (fun st => T w st) G B) (hB : ∀ e, e ≠ 0 → B e (Kp ⟨e⟩))
  (e : ∀ fu i st w, LL (fu + 1) i st w = cond (decide (i < n)) (bK (F st) Kp fun r1 => cond (decide ((w.length + [r1.1].length) * sz ≤ 140737488355328)) (LL fu (IntKind.wrap .i64 (i + 1)) r1.2 (w ++ [r1.1])) none) (T w st)) (h0 : 0 ≤ n) (h1 : n ≤ 1000) :
  uP x0 (bH (nB one n.toNat) R) (fun st => LL fuel 0 st []) G B := by
 refine alB (L := fun fu w st => LL fu ((w.length : Nat) : Int) st w) (T := T) (n := n.toNat) hF hT hB ?_ ?_ n.toNat fuel [] (by simp) (by rw [lP]; omega)
 ·intro fu w a hw
  rw [e, aO (by simp; omega)]
 ·intro fu w a hw
  rw [e, aK (by simp; omega)]
  congr 1
  funext r
  have hs : (w.length + [r.1].length) * sz ≤ (w.length + 1) * 1000 := Nat.mul_le_mul_left _ hz
  rw [aK (by simp only [decide_eq_true_eq]; omega), cQ (by omega)]
  simp
theorem ab4 {x0 : List Int} (hb : Buf x0) : kJ x0 vW fO := by
 unfold vW aag fO
 refine bY (lI hb 64 (by decide)) (fun t => ?_) fun _ _ => rfl
 dsimp only
 refine bY (lI hb 256 (by decide)) (fun pl => ?_) fun _ _ => rfl
 dsimp only
 refine bY (dJ hb) (fun lv => ?_) fun _ _ => rfl
 dsimp only
 refine zQ hb (fun rt => ?_) fun _ _ => rfl
 dsimp only
 refine bY (dJ hb) (fun pr => ?_) fun _ _ => rfl
 dsimp only
 refine bY (dJ hb) (fun ex => ?_) fun _ _ => rfl
 dsimp only
 refine bY (lI hb 16 (by decide)) (fun fr => ?_) fun _ _ => rfl
 dsimp only
 refine bY (dJ hb) (fun sq => ?_) fun _ _ => rfl
 dsimp only
 refine abM (fun n => 0 ≤ n ∧ n ≤ 8) (aef hb 8) agR (fun n hn => ?_) fun _ _ => rfl
 exact ahX (n := n) (G := GP x0) (B := BP) (Kp := fun e => some (.inl e)) (T := fun w st => some (.inr (aC.mk t pl lv (rt == 1) pr ex fr sq w, st))) (LL := fun fu i st w => eK fu n i zeroM t pl lv (rt == 1) pr ex fr sq st w) (R := fun ps => eC (aC.mk t pl lv (rt == 1) pr ex fr sq ps)) 32 (by decide) (akT hb) (fun w => dP _) (fun _ _ => rfl) (fun fu i st w => by
  simp only [eK, ad1, afY]) hn.1 (by omega)
end Md
end PX
