import Derived.Test.YtojlmojebnlmdaaGreatDoorTopicB
set_option linter.unusedVariables false
set_option linter.unusedSimpArgs false
namespace PX
open Go
namespace Md
theorem acS (c : UInt8) : ∀ l : Str, (Lib.indexByte l c = -1 ∧ l.count c = 0) ∨ ∃ m : Nat, Lib.indexByte l c = m ∧ m < l.length ∧ l = l.take m ++ c :: l.drop (m + 1) ∧ (l.take m).count c = 0
 | [] => .inl (by simp [Lib.indexByte])
 | b :: l => by
  rw [Lib.indexByte]
  by_cases h : b = c
  ·subst h
   exact .inr ⟨0, by simp, by simp, by simp, by simp⟩
  ·have hb : (b == c) = false := by simpa using h
   rw [hb]
   simp only [Bool.false_eq_true, if_false]
   rcases acS c l with ⟨h1, h2⟩ | ⟨m, h1, h2, h3, h4⟩
   ·left
    rw [h1]
    exact ⟨by simp, by rw [List.count_cons, hb, h2]; simp⟩
   ·right
    have : ((m : Int) == -1) = false := by simp <;> omega
    refine ⟨m + 1, by rw [h1, this]; simp, by simp; omega, ?_, by rw [List.take_succ_cons, List.count_cons, hb, h4]; simp⟩
    simp only [List.take_succ_cons, List.drop_succ_cons, List.cons_append]
    rw [← h3]
def ahE (l : Str) (one last : Bool) : Bool := (l.contains 43 && !one) || (l.contains 35 && (!one || !last))
def acE : List Str → Bool
 | [] => true
 | lv :: r => !(ahE lv (decide (lv.length = 1)) r.isEmpty) && acE r
def vH (s : Str) : Bool := sizedB s && acE (cS s)
theorem af0 : ∀ (s : Str), ∀ x ∈ cS s, x.length ≤ s.length
 | [], x, hx => by simp [cS] at hx; subst hx; simp
 | b :: r, x, hx => by
  have ih := af0 r
  simp only [cS] at hx
  split at hx
  ·rcases List.mem_cons.1 hx with rfl | hx
   ·simp
   ·have := ih x hx; simp; omega
  ·cases hr : cS r with
   | nil => exact absurd hr (zU r)
   | cons y t =>
    rw [hr] at hx ih
    rcases List.mem_cons.1 hx with rfl | hx
    ·have := ih y List.mem_cons_self; simp; omega
    ·have := ih x (List.mem_cons_of_mem _ hx); simp; omega
theorem arN {l : Str} {c : UInt8} (h : l.contains c = true) : decide (l.length = 1) = (l == [c]) := by
 rw [Bool.eq_iff_iff]
 simp only [decide_eq_true_eq, beq_iff_eq]
 constructor
 ·intro h1
  match l, h1, h with
  | [x], _, h => simp at h; simp [h]
 ·rintro rfl; rfl
theorem aqt (k5 : Int → (List Str) → Option Bool) (l : List Str) (hl : l.length < 1000000) (i : Nat) (h : i < l.length) (hx : l[i].length < 1000000) :
  jB k5 (i : Int) l = if (l[i].contains 35 && (!(decide (l[i].length = 1)) || !((l.drop (i + 1)).isEmpty))) = true then some false else k5 ((i + 1 : Nat) : Int) l := by
 have hw : IntKind.wrap .i64 ((l.length : Int) - 1) = ((l.length - 1 : Nat) : Int) := by rw [w64 (by omega) (by omega)]; omega
 unfold jB
 rw [aN (inr h), bU h, cR (ah7 l[i] (by omega) 35 (n := 35) rfl), bM (by omega)]
 cases h1 : l[i].contains 35
 ·rw [aT (by rfl)]; simp
 ·rw [aN (by rfl), aN (inr h), ← arN h1, hw]
  have el : ((i : Int) != ((l.length - 1 : Nat) : Int)) = !((l.drop (i + 1)).isEmpty) := by rw [Bool.eq_iff_iff]; simp; omega
  rw [el]
  cases decide (l[i].length = 1) <;> cases (l.drop (i + 1)).isEmpty <;> simp
theorem aqU (l : List Str) (hl : l.length < 1000000) (hlv : ∀ x ∈ l, x.length < 1000000) : ∀ (k i fu : Nat), i + k = l.length → k < fu → fM fu (i : Int) l = some (acE (l.drop i)) := by
 intro k
 induction k with
 | zero =>
  intro i fu hi hf
  obtain ⟨fu, rfl⟩ : ∃ n, fu = n + 1 := ⟨fu - 1, by omega⟩
  rw [fM, aT (lU (by omega)), List.drop_eq_nil_of_le (by omega)]; rfl
 | succ k ih =>
  intro i fu hi hf
  obtain ⟨fu, rfl⟩ : ∃ n, fu = n + 1 := ⟨fu - 1, by omega⟩
  have h : i < l.length := by omega
  have hx := hlv _ (List.getElem_mem h)
  rw [fM, aN (dU h), aN (inr h), bU h, cR (ah7 l[i] (by omega) 43 (n := 43) rfl), aqt _ l hl i h hx, ih (i + 1) fu (by omega) (by omega), List.drop_eq_getElem_cons h, acE]
  unfold ahE
  cases h1 : l[i].contains 43
  ·rw [aT (by rfl)]
   simp only [Bool.false_and, Bool.false_or]
   cases (l[i].contains 35 && (!(decide (l[i].length = 1)) || !((l.drop (i + 1)).isEmpty))) <;> simp
  ·rw [aN (by rfl), aN (inr h), ← arN h1]
   cases h2 : decide (l[i].length = 1)
   ·rw [aN (by rfl)]; simp
   ·rw [aT (by rfl)]
    cases (l[i].contains 35) <;> cases ((l.drop (i + 1)).isEmpty) <;> simp
theorem agK (s : Str) : lA s = some (vH s) := by
 unfold lA vH
 rw [cR (aht s)]
 cases h : sizedB s
 ·rw [aN (by rfl)]; rfl
 ·have hl := acp h
  have hc : s.count 47 ≤ s.length := List.count_le_length
  have hn := abj s
  rw [aT (by rfl), cR (agJ s (by omega))]
  have := aqU (cS s) (by omega) (fun x hx => by have := af0 s x hx; omega) (cS s).length 0 fuel (by omega) (by rw [fQ]; omega)
  rw [show ((0 : Nat) : Int) = 0 from rfl] at this
  rw [this]; simp
abbrev uY : Str := [36, 115, 104, 97, 114, 101, 47]
def kH (s p : Str) : Bool := decide (p.length ≤ s.length) && (s.take p.length == p)
theorem ac5 (s p : Str) : jD s p = some (kH s p) := by
 unfold jD kH
 by_cases h : p.length ≤ s.length
 ·rw [aN (by simp; omega), aN (by simp; omega)]; simp [bR, h]
 ·rw [aT (by simp; omega)]; simp [h]
theorem ahF (s p : Str) : k8 s p = some (kH s p) := ac5 s p
def xA (s : Str) : Option (Str × Str) :=
 if kH s uY = true then
  (if Lib.indexByte (s.drop 7) 47 = -1 then none
  else if (lN ((s.drop 7).take (Lib.indexByte (s.drop 7) 47).toNat) && vH ((s.drop 7).drop ((Lib.indexByte (s.drop 7) 47).toNat + 1)) && !(kH ((s.drop 7).drop ((Lib.indexByte (s.drop 7) 47).toNat + 1)) uY)) = true then
   some ((s.drop 7).take (Lib.indexByte (s.drop 7) 47).toNat, (s.drop 7).drop ((Lib.indexByte (s.drop 7) 47).toNat + 1)) else none)
 else none
def qF (o : Option (Str × Str)) : Str × Str × Bool := match o with | some (g, f) => (g, f, true) | none => ([], [], false)
def ae5 (s : Str) : Nat := if Lib.indexByte s 47 = -1 then s.length else (Lib.indexByte s 47).toNat
theorem aoL (s : Str) (hs : s.length < 1000000000000000) : ∀ (k i fu : Nat), i + k = s.length → k < fu → gR fu s (i : Int) = jC s ((i + ae5 (s.drop i) : Nat) : Int) := by
 intro k
 induction k with
 | zero =>
  intro i fu hi hf
  obtain ⟨fu, rfl⟩ : ∃ n, fu = n + 1 := ⟨fu - 1, by omega⟩
  rw [gR, aT (lU (by omega)), List.drop_eq_nil_of_le (by omega)]; simp [ae5, Lib.indexByte]
 | succ k ih =>
  intro i fu hi hf
  obtain ⟨fu, rfl⟩ : ∃ n, fu = n + 1 := ⟨fu - 1, by omega⟩
  have h : i < s.length := by omega
  rw [gR, aN (dU h), aN (inr h), afH h, List.drop_eq_getElem_cons h]
  by_cases c : s[i].toNat = 47
  ·have e : s[i] = 47 := UInt8.toNat.inj (by simpa using c)
   rw [aT (by simp; omega), e]; simp [ae5, Lib.indexByte]
  ·have e : (s[i] == 47) = false := by simp; intro h; rw [h] at c; simp at c
   rw [aN (by simp; omega), bM (by omega), ih (i + 1) fu (by omega) (by omega)]
   congr 2
   unfold ae5
   rw [Lib.indexByte, e]
   simp only [Bool.false_eq_true, if_false]
   rcases acS 47 (s.drop (i + 1)) with ⟨h1, h2⟩ | ⟨m, h1, h2, h3, h4⟩
   ·rw [h1]; simp <;> omega
   ·have h5 : ((m : Int) == -1) = false := by simp
    rw [h1, h5]; simp only [Bool.false_eq_true, if_false]; rw [if_neg (by omega), if_neg (by omega)]; omega
theorem abP (s : Str) (hs : s.length < 1000000000000000) : jQ s = some (qF (xA s)) := by
 unfold jQ xA
 rw [cR (ahF s uY)]
 cases h : kH s uY
 ·rw [aN (by rfl)]; rfl
 ·have hl : 7 ≤ s.length := by simp only [kH, Bool.and_eq_true, decide_eq_true_eq] at h; exact h.1
  have e7 : bR s (some 7) none = s.drop 7 := rfl
  simp only [if_true]
  rw [aT (by rfl), aN (by simp; omega), e7]
  have hj := aoL (s.drop 7) (by simp; omega) (s.drop 7).length 0 fuel (by omega) (by rw [fQ]; simp; omega)
  rw [show ((0 : Nat) : Int) = 0 from rfl, List.drop_zero, Nat.zero_add] at hj
  rw [hj]
  unfold jC ae5
  rcases acS 47 (s.drop 7) with ⟨h1, h2⟩ | ⟨m, h1, h2, h3, h4⟩
  ·rw [h1, if_pos rfl, if_pos rfl, aN (by simp)]; rfl
  ·have e1 : bR (s.drop 7) none (some (m : Int)) = (s.drop 7).take m := by simp [bR]
   have e2 : bR (s.drop 7) (some ((m + 1 : Nat) : Int)) none = (s.drop 7).drop (m + 1) := by simp only [bR, Int.toNat_natCast]
   have hlt : m < s.length - 7 := by simpa using h2
   rw [h1, if_neg (by omega), if_neg (by omega), Int.toNat_natCast, aT (by simp; omega), aN (by simp; omega), e1, cR (vF _ (by simp; omega))]
   cases lN ((s.drop 7).take m)
   ·rw [aN (by rfl)]; simp [qF]
   ·rw [aT (by rfl), bM (by omega), aN (by simp; omega), e2, cR (agK _)]
    cases vH ((s.drop 7).drop (m + 1))
    ·rw [aN (by rfl)]; simp [qF]
    ·rw [aT (by rfl), aN (by simp; omega), cR (ahF _ _)]
     cases kH ((s.drop 7).drop (m + 1)) uY
     ·rw [aT (by rfl)]
      unfold oZ
      rw [aN (by simp; omega), bM (by omega), aN (by simp; omega), e1, e2]
      simp [qF]
     ·rw [aN (by rfl)]; simp [qF]
def acw (s : Str) : Bool := (xA s).isSome || vH s && !(kH s uY)
theorem ali (o : Option (Str × Str)) : (qF o).2.2 = o.isSome := by cases o <;> rfl
theorem ab2 (s : Str) (hs : s.length < 1000000000000000) : jL s = some (acw s) := by
 unfold jL acw
 rw [cR (abP s hs), ali]
 cases (xA s).isSome
 ·rw [aT (by rfl), cR (agK s)]
  cases vH s
  ·rw [aT (by rfl)]; rfl
  ·rw [aN (by rfl), cR (ahF _ _)]; rfl
 ·rw [aN (by rfl)]; rfl
end Md
end PX
