import Derived.Test.YthgmhhgmnegocaaGreatDoorWrC
set_option linter.unusedVariables false
set_option linter.unusedSimpArgs false
namespace PX
open Go
namespace Md
def abf {ρ β : Type} (x0 : List Int) (R : Rd β) (K : aI → Option ρ) (G : β → List Int → Option ρ → Prop) (B : Int → Option ρ → Prop) : Prop :=
 ∀ p : Nat, p ≤ x0.length → match R (x0.drop p) with | .ok y q => G y q (K ⟨x0, p⟩) | .er e _ => B e (K ⟨x0, p⟩)
def GP {α : Type} (x0 : List Int) (y : α) (q : List Int) (o : Option (aN ⊕ (α × aI))) : Prop := ∃ a : Nat, a ≤ x0.length ∧ x0.drop a = q ∧ o = some (.inr (y, ⟨x0, a⟩))
def BP {α : Type} (e : Int) (o : Option (aN ⊕ (α × aI))) : Prop := o = some (.inl ⟨e⟩)
abbrev pF {α : Type} (x0 : List Int) (R : Rd α) (F : aI → Option (aN ⊕ (α × aI))) : Prop := abf x0 R F (GP x0) BP
theorem fQ {α : Type} {x0 : List Int} (x : α) : pF x0 (eU x) (fun st => some (.inr (x, st))) := fun p hp => ⟨p, hp, rfl, rfl⟩
theorem ahb {ρ α β : Type} {x0 : List Int} {R1 : Rd α} {R2 : α → Rd β} {F : aI → Option (aN ⊕ (α × aI))} {Kp : aN → Option ρ} {K : α × aI → Option ρ} {G : β → List Int → Option ρ → Prop} {B : Int → Option ρ → Prop} (D : α → Prop)
  (h1 : pF x0 R1 F) (hD : ∀ l x q, R1 l = .ok x q → D x) (h2 : ∀ x, D x → abf x0 (R2 x) (fun st => K (x, st)) G B) (h3 : ∀ e, e ≠ 0 → B e (Kp ⟨e⟩)) : abf x0 (bQ R1 R2) (fun st => cA (F st) Kp K) G B := by
 intro p hp
 have h := h1 p hp
 unfold bQ
 cases c : R1 (x0.drop p) with
 | ok y q =>
  rw [c] at h
  obtain ⟨a, ha, hq, ho⟩ := h
  dsimp only
  rw [ho, ← hq]
  exact h2 y (hD _ _ _ c) a ha
 | er e he =>
  rw [c] at h
  dsimp only
  have h : F ⟨x0, p⟩ = _ := h
  rw [h]
  exact h3 e he
theorem cR {ρ α β : Type} {x0 : List Int} {R1 : Rd α} {R2 : α → Rd β} {F : aI → Option (aN ⊕ (α × aI))} {Kp : aN → Option ρ} {K : α × aI → Option ρ} {G : β → List Int → Option ρ → Prop} {B : Int → Option ρ → Prop}
  (h1 : pF x0 R1 F) (h2 : ∀ x, abf x0 (R2 x) (fun st => K (x, st)) G B) (h3 : ∀ e, e ≠ 0 → B e (Kp ⟨e⟩)) : abf x0 (bQ R1 R2) (fun st => cA (F st) Kp K) G B :=
 ahb (fun _ => True) h1 (fun _ _ _ _ => trivial) (fun x _ => h2 x) h3
theorem ayH {ρ : Type} (e : Int) (kp : aN → Option ρ) (k : Unit → Option ρ) : cA (eK false e) kp k = k () := rfl
theorem agb {α : Type} {x0 : List Int} {R : Rd α} {z : α} {P : Int → Option (α × Int × Int)} (h : ∀ p : Nat, p ≤ x0.length → qK x0 z (R (x0.drop p)) (P p)) :
  pF x0 R (fun st => Option.bind (P st.at_) fun r0 => cA (eK (r0.2.2 != 0) r0.2.2) (fun e2 => some (.inl e2)) fun r1 => some (.inr (r0.1, (aI.mk x0 r0.2.1)))) := by
 intro p hp
 have := h p hp
 unfold qK at this
 cases c : R (x0.drop p) with
 | ok v q =>
  rw [c] at this
  obtain ⟨a, h1, h2, h3⟩ := this
  refine ⟨a, h1, h2, ?_⟩
  dsimp only
  rw [h3]; rfl
 | er e he =>
  rw [c] at this
  have this : P p = _ := this
  show Option.bind (P p) _ = _
  rw [this, aU]
  dsimp only
  rw [aaY he]; rfl
theorem fA {x0 : List Int} (hb : Buf x0) : pF x0 iL bS := fun p hp => agb (agW hb) p hp
theorem qL {x0 : List Int} (hb : Buf x0) (lim : Int) (hl : lim ≤ 9223372036854775807) : pF x0 (gK lim) (fun st => dE st lim) := fun p hp => agb (P := fun a => xL x0 a lim) (ajN hb lim hl) p hp
theorem ajI {x0 : List Int} (hb : Buf x0) (lim : Int) : pF x0 (uK lim) (fun st => eJ st lim) := by
 unfold uK eJ
 refine cR (fA hb) (fun n => ?_) fun _ _ => rfl
 dsimp only
 by_cases c : n < 0
 ·rw [if_pos (.inl c)]
  intro p hp
  show _ = _
  dsimp only
  rw [aL (by simpa using c)]; rfl
 ·by_cases d : n ≥ lim
  ·rw [if_pos (.inr d)]
   intro p hp
   show _ = _
   dsimp only
   rw [aQ (by simpa using c), show decide (n ≥ lim) = true by simpa using d]; rfl
  ·rw [if_neg (by omega)]
   intro p hp
   refine ⟨p, hp, rfl, ?_⟩
   dsimp only
   rw [aQ (by simpa using c), show decide (n ≥ lim) = false by simpa using d]; rfl
theorem ajU {x0 : List Int} (hb : Buf x0) (lim : Int) : pF x0 (kS lim) (fun st => iY st lim) := by
 unfold kS iY
 refine cR (fA hb) (fun n => ?_) fun _ _ => rfl
 dsimp only
 by_cases c : n < 0
 ·rw [if_pos c]
  intro p hp
  show _ = _
  dsimp only
  rw [show decide (n < 0) = true by simpa using c]; rfl
 ·rw [if_neg c]
  by_cases d : n > lim
  ·rw [if_pos d]
   intro p hp
   show _ = _
   dsimp only
   rw [show decide (n < 0) = false by simpa using c, show decide (n > lim) = true by simpa using d]; rfl
  ·rw [if_neg d]
   intro p hp
   refine ⟨p, hp, rfl, ?_⟩
   dsimp only
   rw [show decide (n < 0) = false by simpa using c, show decide (n > lim) = false by simpa using d]; rfl
theorem aeF {ρ β : Type} {x0 : List Int} (hb : Buf x0) {R2 : Bool → Rd β} {Kp : aN → Option ρ} {K : Int × aI → Option ρ} {G : β → List Int → Option ρ → Prop} {B : Int → Option ρ → Prop} (h : ∀ x, abf x0 (R2 (x == 1)) (fun st => K (x, st)) G B) (h3 : ∀ e, e ≠ 0 → B e (Kp ⟨e⟩)) :
  abf x0 (bQ yD R2) (fun st => cA (eJ st 2) Kp K) G B := by
 unfold yD
 rw [tI]
 exact cR (ajI hb 2) h h3
theorem as8 {ρ α β : Type} {x0 : List Int} {one : Rd α} {F : aI → Option (aN ⊕ (α × aI))} {R : List α → Rd β} {L : Nat → List α → aI → Option ρ} {T : List α → aI → Option ρ} {Kp : aN → Option ρ} {n : Nat} {G : β → List Int → Option ρ → Prop} {B : Int → Option ρ → Prop}
  (hF : pF x0 one F) (hT : ∀ w, abf x0 (R w) (fun st => T w st) G B) (hB : ∀ e, e ≠ 0 → B e (Kp ⟨e⟩))
  (h0 : ∀ fu w (a : Int), w.length = n → L (fu + 1) w ⟨x0, a⟩ = T w ⟨x0, a⟩)
  (h1 : ∀ fu w (a : Int), w.length < n → L (fu + 1) w ⟨x0, a⟩ = cA (F ⟨x0, a⟩) Kp fun r => L fu (w ++ [r.1]) r.2) :
  ∀ k fu w, w.length + k = n → k < fu → abf x0 (bQ (sC one k) fun r => R (w ++ r)) (fun st => L fu w st) G B := by
 intro k
 induction k with
 | zero =>
  intro fu w hn hf
  obtain ⟨fu, rfl⟩ : ∃ n, fu = n + 1 := ⟨fu - 1, by omega⟩
  intro p hp
  have := hT w p hp
  show match R (w ++ []) (x0.drop p) with | .ok y q => _ | .er e _ => _
  dsimp only
  rw [List.append_nil, h0 fu w p (by omega)]
  exact this
 | succ k ih =>
  intro fu w hn hf
  obtain ⟨fu, rfl⟩ : ∃ n, fu = n + 1 := ⟨fu - 1, by omega⟩
  intro p hp
  have h := hF p hp
  dsimp only
  rw [h1 fu w p (by omega)]
  unfold bQ sC
  unfold bQ
  cases c : one (x0.drop p) with
  | ok y q =>
   rw [c] at h
   obtain ⟨a, ha, hq, ho⟩ := h
   rw [ho, ← hq]
   have := ih fu (w ++ [y]) (by simp; omega) (by omega) a ha
   unfold bQ at this
   dsimp only [cA] at this ⊢
   cases d : sC one k (x0.drop a) with
   | ok z q2 =>
    rw [d] at this
    dsimp only [eU] at this ⊢
    rw [List.append_assoc] at this
    exact this
   | er e he =>
    rw [d] at this
    exact this
  | er e he =>
   rw [c] at h
   have h : F ⟨x0, p⟩ = _ := h
   dsimp only
   rw [h]
   exact hB e he
theorem ajR {Q R S U : Type} (x : Option (Q ⊕ R)) (f : R → Option (Q ⊕ S)) (kp : Q → Option U) (k : S → Option U) : cA (cA x (fun e => some (.inl e)) f) kp k = cA x kp fun r => cA (f r) kp k := by
 cases x with
 | none => rfl
 | some y => cases y <;> rfl
theorem alP {Q R S : Type} (r : R) (kp : Q → Option S) (k : R → Option S) : cA (some (.inr r)) kp k = k r := rfl
theorem arY {x0 : List Int} (hb : Buf x0) : pF x0 afa (fun st => cA (dE st 16) (fun e => some (.inl e)) fun r13 => cA (dE r13.2 160) (fun e => some (.inl e)) fun r14 => some (.inr ((aC.mk r13.1 r14.1), r14.2))) := by
 unfold afa
 refine cR (qL hb 16 (by decide)) (fun k => ?_) fun _ _ => rfl
 dsimp only
 refine cR (qL hb 160 (by decide)) (fun v => ?_) fun _ _ => rfl
 exact fQ _
theorem anO {ρ α β : Type} {x0 : List Int} {one : Rd α} {F : aI → Option (aN ⊕ (α × aI))} {R : List α → Rd β} {n : Int} {G : β → List Int → Option ρ → Prop} {B : Int → Option ρ → Prop} {T : List α → aI → Option ρ} {Kp : aN → Option ρ}
  {LL : Nat → Int → aI → List α → Option ρ} (sz : Nat) (hz : sz ≤ 1000) (hF : pF x0 one F) (hT : ∀ w, abf x0 (R w) (fun st => T w st) G B) (hB : ∀ e, e ≠ 0 → B e (Kp ⟨e⟩))
  (e : ∀ fu i st w, LL (fu + 1) i st w = cond (decide (i < n)) (cA (F st) Kp fun r1 => cond (decide ((w.length + [r1.1].length) * sz ≤ 140737488355328)) (LL fu (IntKind.wrap .i64 (i + 1)) r1.2 (w ++ [r1.1])) none) (T w st)) (h0 : 0 ≤ n) (h1 : n ≤ 1000) :
  abf x0 (bQ (sC one n.toNat) R) (fun st => LL fuel 0 st []) G B := by
 refine as8 (L := fun fu w st => LL fu ((w.length : Nat) : Int) st w) (T := T) (n := n.toNat) hF hT hB ?_ ?_ n.toNat fuel [] (by simp) (by rw [iX]; omega)
 ·intro fu w a hw
  rw [e, aQ (by simp; omega)]
 ·intro fu w a hw
  rw [e, aL (by simp; omega)]
  congr 1
  funext r
  have hs : (w.length + [r.1].length) * sz ≤ (w.length + 1) * 1000 := Nat.mul_le_mul_left _ hz
  rw [aL (by simp only [decide_eq_true_eq]; omega), cD (by omega)]
  simp
theorem ahz {x0 : List Int} (hb : Buf x0) : pF x0 zW jE := by
 unfold zW ac0 jE
 refine cR (qL hb 64 (by decide)) (fun t => ?_) fun _ _ => rfl
 dsimp only
 refine cR (qL hb 256 (by decide)) (fun pl => ?_) fun _ _ => rfl
 dsimp only
 refine cR (fA hb) (fun lv => ?_) fun _ _ => rfl
 dsimp only
 refine aeF hb (fun rt => ?_) fun _ _ => rfl
 dsimp only
 refine cR (fA hb) (fun pr => ?_) fun _ _ => rfl
 dsimp only
 refine cR (fA hb) (fun ex => ?_) fun _ _ => rfl
 dsimp only
 refine cR (qL hb 16 (by decide)) (fun fr => ?_) fun _ _ => rfl
 dsimp only
 refine cR (fA hb) (fun sq => ?_) fun _ _ => rfl
 dsimp only
 refine ahb (fun n => 0 ≤ n ∧ n ≤ 8) (ajU hb 8) ae6 (fun n hn => ?_) fun _ _ => rfl
 exact anO (n := n) (G := GP x0) (B := BP) (Kp := fun e => some (.inl e)) (T := fun w st => some (.inr (aF.mk t pl lv (rt == 1) pr ex fr sq w, st))) (LL := fun fu i st w => gN fu n i zeroM t pl lv (rt == 1) pr ex fr sq st w) (R := fun ps => eU (aF.mk t pl lv (rt == 1) pr ex fr sq ps)) 32 (by decide) (arY hb) (fun w => fQ _) (fun _ _ => rfl) (fun fu i st w => by
  simp only [gN, ajR, alP]) hn.1 (by omega)
end Md
end PX
