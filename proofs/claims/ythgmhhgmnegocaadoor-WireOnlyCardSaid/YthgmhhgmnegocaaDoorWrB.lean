import Derived.Test.YthgmhhgmnegocaaDoorWrA
set_option linter.unusedVariables false
set_option linter.unusedSimpArgs false
namespace PX
open Go
namespace Md
theorem ape {m : aC} (h : MsgD m) : ahN m := by
 have h1 := h.t; have h2 := h.p; have h3 := h.f; have h4 := h.n
 refine ⟨by omega, by omega, by omega, by omega, fun x hx => ?_, ang h⟩
 have := h.ps x hx
 omega
theorem aj8 {b : List Int} {m : aC} (h : MsgD m) (hb : b.length ≤ 900000000000) : mX b m = some (b ++ nK m) := alw b (ape h) hb
theorem acY (a : Bool) : j7 [a] = some (fM a) := ah5 a
theorem alI (a b : Bool) : j7 [a, b] = some (fM a + 2 * fM b) := by cases a <;> cases b <;> kernel_rfl
theorem aif (a b : Bool) : okI .i64 (fM a + 2 * fM b) := by cases a <;> cases b <;> exact qC (by decide) (by decide)
theorem rD {b : List Int} {x : Int} (h : i64 x) (hb : b.length ≤ 90000000000000) : bS b x = some (b ++ cB x) := nV b (dR h) hb
theorem aju (b : List Int) {p : aA} (h : aap p) (hk : p.Kind = 1) (hb : b.length ≤ 1000) : pQ b p = some (b ++ zG p) := by
 obtain ⟨h1, h2, h3⟩ := h.cl hk
 have a1 := dE p.Client
 have a2 := dE p.User
 have a3 := bL (fM p.Clean + 2 * fM p.Will.Set)
 unfold pQ
 rw [mT _ (by omega) (by omega), aX, mT _ (by omega) (by simp only [List.length_append]; omega), aX, alI, aX, nV _ (aif _ _) (by simp only [List.length_append]; omega), aX,
  ajD (F := fun fu i w => iT fu (([p.Keep, p.Expiry, p.Window].length : Nat) : Int) i p w [p.Keep, p.Expiry, p.Window]) (l := [p.Keep, p.Expiry, p.Window]) (f := cB) (qQ p.Will) i64 (by intro x hx; simp only [List.mem_cons, List.not_mem_nil, or_false] at hx; rcases hx with rfl | rfl | rfl; exact h.keep; exact h.exp; exact h.win) (by simp) (fun x _ => by have := bL x; omega)
   (fun fu w hw => by
    rw [iT, aO (by simp)]
    unfold qQ
    cases hs : p.Will.Set with
    | true =>
     have e := bL p.Will.Delay
     rw [fA, if_pos rfl, rD h.del (by omega), aX, aj8 (h3 hs) (by simp only [List.length_append]; omega), aX, List.append_assoc]
    | false => rw [fE, if_neg (by decide), List.append_nil])
   (fun fu i w hi hp hw => by have : i < 3 := hi; rw [iT, aK (mG hi), aK (inr hi), cS hi, rD hp (by omega), aX, cQ (by omega)]) _ (by simp only [List.length_append]; omega)]
 simp [zG]
theorem aaB {α ρ : Type} {l : List α} {F : Nat → Int → List Int → Option ρ} {f : α → List Int} (T : List Int → Option ρ) (P : α → Prop) (hP : ∀ x ∈ l, P x) (hl : l.length ≤ 1000) (hf : ∀ x, P x → (f x).length ≤ 100000)
  (h0 : ∀ fu w, w.length ≤ 200000000 → F (fu + 1) (l.length : Int) w = T w)
  (h1 : ∀ fu i w (hi : i < l.length), P l[i] → w.length ≤ 200000000 → F (fu + 1) (i : Int) w = F fu ((i + 1 : Nat) : Int) (w ++ f l[i])) (b : List Int) (hb : b.length ≤ 100000000) : F fuel 0 b = T (b ++ l.flatMap f) := by
 refine qH (l := l) (F := F) (g := fun r w => T (w ++ r.flatMap f)) (fun i w => w.length ≤ 100000000 + i * 100000) (fun fu w hw => by rw [h0 _ _ (by omega)]; simp) (fun fu i w hi hw ih => ?_) (by omega) b (by omega)
 have hp := hP _ (List.getElem_mem hi)
 have := hf _ hp
 rw [h1 fu i w hi hp (by omega), ih _ (by simp only [List.length_append]; omega)]
 simp [-List.getElem_cons_drop]
theorem alo {x : aF} (h : SubD x) : (tK x).length ≤ 118 := by
 have a := dE x.Filter
 have b := bL x.Level
 have c := bL (fM x.NoLocal)
 have := h.1
 simp only [tK, List.length_append]
 omega
theorem abX (a : Bool) : i64 (fM a) := kY (aox a)
theorem adH {n : Nat} (h : n ≤ 1000000) : i64 (n : Int) := ⟨by omega, by omega⟩
theorem amW (b : List Int) {l : List aF} (hl : l.length ≤ 32) (h : ∀ x ∈ l, SubD x) (hb : b.length ≤ 1000) : j9 b l = some (b ++ j5 tK l) := by
 have e := bL (l.length : Int)
 unfold j9
 rw [rD (adH (by omega)) (by omega), aX, aaB (F := fun fu i w => fF fu l (l.length : Int) i w) (f := tK) some SubD h (by omega) (fun x h => by have := alo h; omega) (fun fu w _ => by rw [fF, aO (by simp)])
  (fun fu i w hi hp hw => by
   have a1 := dE l[i].Filter
   have a2 := bL l[i].Level
   have := hp.1
   rw [fF, aK (mG hi), aK (inr hi), cS hi, mT _ (by omega) (by omega), aX, rD hp.2 (by simp only [List.length_append]; omega), aX, acY, aX, rD (abX _) (by simp only [List.length_append]; omega), aX, cQ (by omega)]
   simp [tK]) _ (by simp only [List.length_append]; omega)]
 simp [j5]
theorem agZ (b : List Int) {l : List Int} (hl : l.length ≤ 32) (h : ∀ x ∈ l, i64 x) (hb : b.length ≤ 1000) : (Option.bind (bS b (List.length l : Int)) fun r17 => gD fuel l (List.length l : Int) 0 r17) = some (b ++ j5 cB l, 0) := by
 have e := bL (l.length : Int)
 rw [rD (adH (by omega)) (by omega), aX, aaB (F := fun fu i w => gD fu l (l.length : Int) i w) (f := cB) (fun w => some (w, 0)) i64 h (by omega) (fun x h => by have := bL x; omega) (fun fu w _ => by rw [gD, aO (by simp)])
  (fun fu i w hi hp hw => by rw [gD, aK (mG hi), aK (inr hi), cS hi, rD hp (by omega), aX, cQ (by omega)]) _ (by simp only [List.length_append]; omega)]
 simp [j5]
theorem add_eq {b : List Int} {x : Int} (h : i64 x) (hb : b.length ≤ 90000000000000) : nA b x = some (b ++ cB x) := by
 have := rD h hb
 unfold bS at this
 rw [abE _ (by decide) (by decide) (by omega), aX] at this
 cases e : nA b x with
 | none => rw [e] at this; cases this
 | some r => rw [e] at this; exact this
theorem als (b : List Int) {l : List Str} (hl : l.length ≤ 32) (h : ∀ x ∈ l, x.length ≤ 88) (hb : b.length ≤ 1000) : oL b l = some (b ++ j5 fL l) := by
 have e := bL (l.length : Int)
 unfold oL
 rw [abE _ (by decide) (by decide) (by omega), aX, add_eq (adH (by omega)) (by omega), aX, aaB (F := fun fu i w => iE fu l (l.length : Int) i w) (f := fL) some (fun s => s.length ≤ 88) h (by omega) (fun x h => by have := dE x; omega) (fun fu w _ => by rw [iE, aO (by simp)])
  (fun fu i w hi hp hw => by
   have a1 := bL (l[i].length : Int)
   have a2 := ac8 l[i]
   rw [iE, aK (mG hi), aK (inr hi), cS hi, add_eq (adH (by omega)) (by omega), aX, aK (by simp only [decide_eq_true_eq, List.length_append]; omega), cQ (by omega)]
   simp [fL]) _ (by simp only [List.length_append]; omega)]
 simp [j5]
def tH (p : aA) : List Int × Int := cond (jM p != 0) ([], jM p) (gI p, 0)
theorem aij {p : aA} (h : aap p) : i64 p.Kind := by
 have := h.k
 rw [oA] at this
 exact ⟨by omega, by omega⟩
theorem aeW (p : aA) (g : p.good) : m0 p = some (tH p) := by
 unfold m0 tH
 rw [zE p g, aX]
 by_cases c : jM p = 0
 ·rw [c, aO (by simp), aO (by simp)]
  have h := agH c g
  have a1 := bL p.Kind
  have a2 := bL p.ID
  rw [rD (aij h) (by simp), aX, List.nil_append]
  unfold gI jD
  have i1 : bS (cB p.Kind) p.ID = some (cB p.Kind ++ cB p.ID) := rD h.id (by omega)
  generalize cB p.Kind = B at *
  rcases n4 h.k with k | k | k | k | k | k | k | k | k | k | k | k | k | k <;> simp only [k, show ∀ a b : Int, (a == b) = decide (a = b) from fun a b => rfl, Int.reduceEq, decide_true, decide_false, fA, fE]
  ·rw [aju _ h k (by omega)]; rfl
  ·rw [acY, aX, rD (abX _) (by omega), aX, rD h.code (by have := bL (fM p.Present); simp only [List.length_append]; omega), aX]; simp
  ·rw [i1, aX, acY, aX, rD (abX _) (by simp only [List.length_append]; omega), aX, aj8 (h.ms k) (by have := bL (fM p.Dup); simp only [List.length_append]; omega), aX]; simp
  ·rw [i1, aX]; simp
  ·rw [i1, aX]; simp
  ·rw [i1, aX]; simp
  ·rw [i1, aX]; simp
  ·rw [i1, aX, amW _ (h.sb k).1 (h.sb k).2 (by simp only [List.length_append]; omega), aX]; simp
  ·rw [i1, aX, agZ _ (h.cd (.inl k)).1 (h.cd (.inl k)).2 (by simp only [List.length_append]; omega)]; simp
  ·rw [i1, aX, als _ (h.fl k).1 (h.fl k).2 (by simp only [List.length_append]; omega), aX]; simp
  ·rw [i1, aX, agZ _ (h.cd (.inr k)).1 (h.cd (.inr k)).2 (by simp only [List.length_append]; omega)]; simp
  ·simp
  ·simp
  ·rw [rD h.code (by omega), aX]
 ·rw [aK (by simpa using c), aK (by simpa using c)]
end Md
end PX
