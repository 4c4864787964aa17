import Derived.Test.YtojlmojebnlmdaaGreatDoorTopicB
set_option linter.unusedVariables false
set_option linter.unusedSimpArgs false
namespace PX
open Go
namespace Md
theorem afn (c : UInt8) : ∀ l : Str, (Lib.indexByte l c = -1 ∧ l.count c = 0) ∨ ∃ m : Nat, Lib.indexByte l c = m ∧ m < l.length ∧ l = l.take m ++ c :: l.drop (m + 1) ∧ (l.take m).count c = 0
 | [] => .inl (by simp [Lib.indexByte])
 | b :: l => by
  rw [Lib.indexByte]
  by_cases h : b = c
  ·subst h
   exact .inr ⟨0, by simp, by simp, by simp, by simp⟩
  ·have hb : (b == c) = false := by simpa using h
   rw [hb]
   simp only [Bool.false_eq_true, if_false]
   rcases afn c l with ⟨h1, h2⟩ | ⟨m, h1, h2, h3, h4⟩
   ·left
    rw [h1]
    exact ⟨by simp, by rw [List.count_cons, hb, h2]; simp⟩
   ·right
    have : ((m : Int) == -1) = false := by simp <;> omega
    refine ⟨m + 1, by rw [h1, this]; simp, by simp; omega, ?_, by rw [List.take_succ_cons, List.count_cons, hb, h4]; simp⟩
    simp only [List.take_succ_cons, List.drop_succ_cons, List.cons_append]
    rw [← h3]
def arn (l : Str) (one last : Bool) : Bool := (l.contains 43 && !one) || (l.contains 35 && (!one || !last))
def aeL : List Str → Bool
 | [] => true
 | lv :: r => !(arn lv (decide (lv.length = 1)) r.isEmpty) && aeL r
def yH (s : Str) : Bool := sizedB s && aeL (cX s)
theorem agf : ∀ (s : Str), ∀ x ∈ cX s, x.length ≤ s.length
 | [], x, hx => by simp [cX] at hx; subst hx; simp
 | b :: r, x, hx => by
  have ih := agf r
  simp only [cX] at hx
  split at hx
  ·rcases List.mem_cons.1 hx with rfl | hx
   ·simp
   ·have := ih x hx; simp; omega
  ·cases hr : cX r with
   | nil => exact absurd hr (uC r)
   | cons y t =>
    rw [hr] at hx ih
    rcases List.mem_cons.1 hx with rfl | hx
    ·have := ih y List.mem_cons_self; simp; omega
    ·have := ih x (List.mem_cons_of_mem _ hx); simp; omega
theorem alN {l : Str} {c : UInt8} (h : l.contains c = true) : decide (l.length = 1) = (l == [c]) := by
 rw [Bool.eq_iff_iff]
 simp only [decide_eq_true_eq, beq_iff_eq]
 constructor
 ·intro h1
  match l, h1, h with
  | [x], _, h => simp at h; simp [h]
 ·rintro rfl; rfl
theorem alC (k5 : Int → (List Str) → Option Bool) (l : List Str) (hl : l.length < 1000000) (i : Nat) (h : i < l.length) (hx : l[i].length < 1000000) :
  hJ k5 (i : Int) l = if (l[i].contains 35 && (!(decide (l[i].length = 1)) || !((l.drop (i + 1)).isEmpty))) = true then some false else k5 ((i + 1 : Nat) : Int) l := by
 have hw : IntKind.wrap .i64 ((l.length : Int) - 1) = ((l.length - 1 : Nat) : Int) := by rw [w64 (by omega) (by omega)]; omega
 unfold hJ
 rw [aR (inr h), dD h, eE (ad5 l[i] (by omega) 35 (n := 35) rfl), dA (by omega)]
 cases h1 : l[i].contains 35
 ·rw [bD (by rfl)]; simp
 ·rw [aR (by rfl), aR (inr h), ← alN h1, hw]
  have el : ((i : Int) != ((l.length - 1 : Nat) : Int)) = !((l.drop (i + 1)).isEmpty) := by rw [Bool.eq_iff_iff]; simp; omega
  rw [el]
  cases decide (l[i].length = 1) <;> cases (l.drop (i + 1)).isEmpty <;> simp
theorem akU (l : List Str) (hl : l.length < 1000000) (hlv : ∀ x ∈ l, x.length < 1000000) : ∀ (k i fu : Nat), i + k = l.length → k < fu → dX fu (i : Int) l = some (aeL (l.drop i)) := by
 intro k
 induction k with
 | zero =>
  intro i fu hi hf
  obtain ⟨fu, rfl⟩ : ∃ n, fu = n + 1 := ⟨fu - 1, by omega⟩
  rw [dX, bD (xC (by omega)), List.drop_eq_nil_of_le (by omega)]; rfl
 | succ k ih =>
  intro i fu hi hf
  obtain ⟨fu, rfl⟩ : ∃ n, fu = n + 1 := ⟨fu - 1, by omega⟩
  have h : i < l.length := by omega
  have hx := hlv _ (List.getElem_mem h)
  rw [dX, aR (nK h), aR (inr h), dD h, eE (ad5 l[i] (by omega) 43 (n := 43) rfl), alC _ l hl i h hx, ih (i + 1) fu (by omega) (by omega), List.drop_eq_getElem_cons h, aeL]
  unfold arn
  cases h1 : l[i].contains 43
  ·rw [bD (by rfl)]
   simp only [Bool.false_and, Bool.false_or]
   cases (l[i].contains 35 && (!(decide (l[i].length = 1)) || !((l.drop (i + 1)).isEmpty))) <;> simp
  ·rw [aR (by rfl), aR (inr h), ← alN h1]
   cases h2 : decide (l[i].length = 1)
   ·rw [aR (by rfl)]; simp
   ·rw [bD (by rfl)]
    cases (l[i].contains 35) <;> cases ((l.drop (i + 1)).isEmpty) <;> simp
theorem ada (s : Str) : jV s = some (yH s) := by
 unfold jV yH
 rw [eE (ad6 s)]
 cases h : sizedB s
 ·rw [aR (by rfl)]; rfl
 ·have hl := agx h
  have hc : s.count 47 ≤ s.length := List.count_le_length
  have hn := aa4 s
  rw [bD (by rfl), eE (ac4 s (by omega))]
  have := akU (cX s) (by omega) (fun x hx => by have := agf s x hx; omega) (cX s).length 0 fuel (by omega) (by rw [p8]; omega)
  rw [show ((0 : Nat) : Int) = 0 from rfl] at this
  rw [this]; simp
abbrev abh : Str := [36, 115, 104, 97, 114, 101, 47]
def rK (s p : Str) : Bool := decide (p.length ≤ s.length) && (s.take p.length == p)
theorem ajI (s p : Str) : hU s p = some (rK s p) := by
 unfold hU rK
 by_cases h : p.length ≤ s.length
 ·rw [aR (by simp; omega), aR (by simp; omega)]; simp [bO, h]
 ·rw [bD (by simp; omega)]; simp [h]
theorem ad7 (s p : Str) : jK s p = some (rK s p) := ajI s p
def yO (s : Str) : Option (Str × Str) :=
 if rK s abh = true then
  (if Lib.indexByte (s.drop 7) 47 = -1 then none
  else if (uK ((s.drop 7).take (Lib.indexByte (s.drop 7) 47).toNat) && yH ((s.drop 7).drop ((Lib.indexByte (s.drop 7) 47).toNat + 1)) && !(rK ((s.drop 7).drop ((Lib.indexByte (s.drop 7) 47).toNat + 1)) abh)) = true then
   some ((s.drop 7).take (Lib.indexByte (s.drop 7) 47).toNat, (s.drop 7).drop ((Lib.indexByte (s.drop 7) 47).toNat + 1)) else none)
 else none
def yL (o : Option (Str × Str)) : Str × Str × Bool := match o with | some (g, f) => (g, f, true) | none => ([], [], false)
def abb (s : Str) : Nat := if Lib.indexByte s 47 = -1 then s.length else (Lib.indexByte s 47).toNat
theorem aiO (s : Str) (hs : s.length < 1000000000000000) : ∀ (k i fu : Nat), i + k = s.length → k < fu → fB fu s (i : Int) = g7 s ((i + abb (s.drop i) : Nat) : Int) := by
 intro k
 induction k with
 | zero =>
  intro i fu hi hf
  obtain ⟨fu, rfl⟩ : ∃ n, fu = n + 1 := ⟨fu - 1, by omega⟩
  rw [fB, bD (xC (by omega)), List.drop_eq_nil_of_le (by omega)]; simp [abb, Lib.indexByte]
 | succ k ih =>
  intro i fu hi hf
  obtain ⟨fu, rfl⟩ : ∃ n, fu = n + 1 := ⟨fu - 1, by omega⟩
  have h : i < s.length := by omega
  rw [fB, aR (nK h), aR (inr h), aep h, List.drop_eq_getElem_cons h]
  by_cases c : s[i].toNat = 47
  ·have e : s[i] = 47 := UInt8.toNat.inj (by simpa using c)
   rw [bD (by simp; omega), e]; simp [abb, Lib.indexByte]
  ·have e : (s[i] == 47) = false := by simp; intro h; rw [h] at c; simp at c
   rw [aR (by simp; omega), dA (by omega), ih (i + 1) fu (by omega) (by omega)]
   congr 2
   unfold abb
   rw [Lib.indexByte, e]
   simp only [Bool.false_eq_true, if_false]
   rcases afn 47 (s.drop (i + 1)) with ⟨h1, h2⟩ | ⟨m, h1, h2, h3, h4⟩
   ·rw [h1]; simp <;> omega
   ·have h5 : ((m : Int) == -1) = false := by simp
    rw [h1, h5]; simp only [Bool.false_eq_true, if_false]; rw [if_neg (by omega), if_neg (by omega)]; omega
theorem ac1 (s : Str) (hs : s.length < 1000000000000000) : jL s = some (yL (yO s)) := by
 unfold jL yO
 rw [eE (ad7 s abh)]
 cases h : rK s abh
 ·rw [aR (by rfl)]; rfl
 ·have hl : 7 ≤ s.length := by simp only [rK, Bool.and_eq_true, decide_eq_true_eq] at h; exact h.1
  have e7 : bO s (some 7) none = s.drop 7 := rfl
  simp only [if_true]
  rw [bD (by rfl), aR (by simp; omega), e7]
  have hj := aiO (s.drop 7) (by simp; omega) (s.drop 7).length 0 fuel (by omega) (by rw [p8]; simp; omega)
  rw [show ((0 : Nat) : Int) = 0 from rfl, List.drop_zero, Nat.zero_add] at hj
  rw [hj]
  unfold g7 abb
  rcases afn 47 (s.drop 7) with ⟨h1, h2⟩ | ⟨m, h1, h2, h3, h4⟩
  ·rw [h1, if_pos rfl, if_pos rfl, aR (by simp)]; rfl
  ·have e1 : bO (s.drop 7) none (some (m : Int)) = (s.drop 7).take m := by simp [bO]
   have e2 : bO (s.drop 7) (some ((m + 1 : Nat) : Int)) none = (s.drop 7).drop (m + 1) := by simp only [bO, Int.toNat_natCast]
   have hlt : m < s.length - 7 := by simpa using h2
   rw [h1, if_neg (by omega), if_neg (by omega), Int.toNat_natCast, bD (by simp; omega), aR (by simp; omega), e1, eE (wA _ (by simp; omega))]
   cases uK ((s.drop 7).take m)
   ·rw [aR (by rfl)]; simp [yL]
   ·rw [bD (by rfl), dA (by omega), aR (by simp; omega), e2, eE (ada _)]
    cases yH ((s.drop 7).drop (m + 1))
    ·rw [aR (by rfl)]; simp [yL]
    ·rw [bD (by rfl), aR (by simp; omega), eE (ad7 _ _)]
     cases rK ((s.drop 7).drop (m + 1)) abh
     ·rw [bD (by rfl)]
      unfold lN
      rw [aR (by simp; omega), dA (by omega), aR (by simp; omega), e1, e2]
      simp [yL]
     ·rw [aR (by rfl)]; simp [yL]
def aeM (s : Str) : Bool := (yO s).isSome || yH s && !(rK s abh)
theorem akZ (o : Option (Str × Str)) : (yL o).2.2 = o.isSome := by cases o <;> rfl
theorem aio (s : Str) (hs : s.length < 1000000000000000) : lK s = some (aeM s) := by
 unfold lK aeM
 rw [eE (ac1 s hs), akZ]
 cases (yO s).isSome
 ·rw [bD (by rfl), eE (ada s)]
  cases yH s
  ·rw [bD (by rfl)]; rfl
  ·rw [aR (by rfl), eE (ad7 _ _)]; rfl
 ·rw [aR (by rfl)]; rfl
end Md
end PX
