import Derived.Test.YtojlmojebnlmdaaGreatDoorTopicB
set_option linter.unusedVariables false
set_option linter.unusedSimpArgs false
namespace PX
open Go
namespace Md
theorem aeO (c : UInt8) : ∀ l : Str, (Lib.indexByte l c = -1 ∧ l.count c = 0) ∨ ∃ m : Nat, Lib.indexByte l c = m ∧ m < l.length ∧ l = l.take m ++ c :: l.drop (m + 1) ∧ (l.take m).count c = 0
 | [] => .inl (by simp [Lib.indexByte])
 | b :: l => by
  rw [Lib.indexByte]
  by_cases h : b = c
  ·subst h
   exact .inr ⟨0, by simp, by simp, by simp, by simp⟩
  ·have hb : (b == c) = false := by simpa using h
   rw [hb]
   simp only [Bool.false_eq_true, if_false]
   rcases aeO c l with ⟨h1, h2⟩ | ⟨m, h1, h2, h3, h4⟩
   ·left
    rw [h1]
    exact ⟨by simp, by rw [List.count_cons, hb, h2]; simp⟩
   ·right
    have : ((m : Int) == -1) = false := by simp <;> omega
    refine ⟨m + 1, by rw [h1, this]; simp, by simp; omega, ?_, by rw [List.take_succ_cons, List.count_cons, hb, h4]; simp⟩
    simp only [List.take_succ_cons, List.drop_succ_cons, List.cons_append]
    rw [← h3]
def aos (l : Str) (one last : Bool) : Bool := (l.contains 43 && !one) || (l.contains 35 && (!one || !last))
def adP : List Str → Bool
 | [] => true
 | lv :: r => !(aos lv (decide (lv.length = 1)) r.isEmpty) && adP r
def w4 (s : Str) : Bool := sizedB s && adP (cZ s)
theorem ae0 : ∀ (s : Str), ∀ x ∈ cZ s, x.length ≤ s.length
 | [], x, hx => by simp [cZ] at hx; subst hx; simp
 | b :: r, x, hx => by
  have ih := ae0 r
  simp only [cZ] at hx
  split at hx
  ·rcases List.mem_cons.1 hx with rfl | hx
   ·simp
   ·have := ih x hx; simp; omega
  ·cases hr : cZ r with
   | nil => exact absurd hr (tA r)
   | cons y t =>
    rw [hr] at hx ih
    rcases List.mem_cons.1 hx with rfl | hx
    ·have := ih y List.mem_cons_self; simp; omega
    ·have := ih x (List.mem_cons_of_mem _ hx); simp; omega
theorem alm {l : Str} {c : UInt8} (h : l.contains c = true) : decide (l.length = 1) = (l == [c]) := by
 rw [Bool.eq_iff_iff]
 simp only [decide_eq_true_eq, beq_iff_eq]
 constructor
 ·intro h1
  match l, h1, h with
  | [x], _, h => simp at h; simp [h]
 ·rintro rfl; rfl
theorem ajz (k5 : Int → (List Str) → Option Bool) (l : List Str) (hl : l.length < 1000000) (i : Nat) (h : i < l.length) (hx : l[i].length < 1000000) :
  gQ k5 (i : Int) l = if (l[i].contains 35 && (!(decide (l[i].length = 1)) || !((l.drop (i + 1)).isEmpty))) = true then some false else k5 ((i + 1 : Nat) : Int) l := by
 have hw : IntKind.wrap .i64 ((l.length : Int) - 1) = ((l.length - 1 : Nat) : Int) := by rw [w64 (by omega) (by omega)]; omega
 unfold gQ
 rw [aT (inr h), fA h, gW (adb l[i] (by omega) 35 (n := 35) rfl), dC (by omega)]
 cases h1 : l[i].contains 35
 ·rw [bE (by rfl)]; simp
 ·rw [aT (by rfl), aT (inr h), ← alm h1, hw]
  have el : ((i : Int) != ((l.length - 1 : Nat) : Int)) = !((l.drop (i + 1)).isEmpty) := by rw [Bool.eq_iff_iff]; simp; omega
  rw [el]
  cases decide (l[i].length = 1) <;> cases (l.drop (i + 1)).isEmpty <;> simp
theorem aj9 (l : List Str) (hl : l.length < 1000000) (hlv : ∀ x ∈ l, x.length < 1000000) : ∀ (k i fu : Nat), i + k = l.length → k < fu → dX fu (i : Int) l = some (adP (l.drop i)) := by
 intro k
 induction k with
 | zero =>
  intro i fu hi hf
  obtain ⟨fu, rfl⟩ : ∃ n, fu = n + 1 := ⟨fu - 1, by omega⟩
  rw [dX, bE (v8 (by omega)), List.drop_eq_nil_of_le (by omega)]; rfl
 | succ k ih =>
  intro i fu hi hf
  obtain ⟨fu, rfl⟩ : ∃ n, fu = n + 1 := ⟨fu - 1, by omega⟩
  have h : i < l.length := by omega
  have hx := hlv _ (List.getElem_mem h)
  rw [dX, aT (n4 h), aT (inr h), fA h, gW (adb l[i] (by omega) 43 (n := 43) rfl), ajz _ l hl i h hx, ih (i + 1) fu (by omega) (by omega), List.drop_eq_getElem_cons h, adP]
  unfold aos
  cases h1 : l[i].contains 43
  ·rw [bE (by rfl)]
   simp only [Bool.false_and, Bool.false_or]
   cases (l[i].contains 35 && (!(decide (l[i].length = 1)) || !((l.drop (i + 1)).isEmpty))) <;> simp
  ·rw [aT (by rfl), aT (inr h), ← alm h1]
   cases h2 : decide (l[i].length = 1)
   ·rw [aT (by rfl)]; simp
   ·rw [bE (by rfl)]
    cases (l[i].contains 35) <;> cases ((l.drop (i + 1)).isEmpty) <;> simp
theorem acj (s : Str) : jJ s = some (w4 s) := by
 unfold jJ w4
 rw [gW (ac5 s)]
 cases h : sizedB s
 ·rw [aT (by rfl)]; rfl
 ·have hl := afg h
  have hc : s.count 47 ≤ s.length := List.count_le_length
  have hn := aah s
  rw [bE (by rfl), gW (ach s (by omega))]
  have := aj9 (cZ s) (by omega) (fun x hx => by have := ae0 s x hx; omega) (cZ s).length 0 fuel (by omega) (by rw [o8]; omega)
  rw [show ((0 : Nat) : Int) = 0 from rfl] at this
  rw [this]; simp
abbrev abl : Str := [36, 115, 104, 97, 114, 101, 47]
def qB (s p : Str) : Bool := decide (p.length ≤ s.length) && (s.take p.length == p)
theorem ah0 (s p : Str) : g5 s p = some (qB s p) := by
 unfold g5 qB
 by_cases h : p.length ≤ s.length
 ·rw [aT (by simp; omega), aT (by simp; omega)]; simp [bU, h]
 ·rw [bE (by simp; omega)]; simp [h]
theorem adh (s p : Str) : iY s p = some (qB s p) := ah0 s p
def xE (s : Str) : Option (Str × Str) :=
 if qB s abl = true then
  (if Lib.indexByte (s.drop 7) 47 = -1 then none
  else if (tD ((s.drop 7).take (Lib.indexByte (s.drop 7) 47).toNat) && w4 ((s.drop 7).drop ((Lib.indexByte (s.drop 7) 47).toNat + 1)) && !(qB ((s.drop 7).drop ((Lib.indexByte (s.drop 7) 47).toNat + 1)) abl)) = true then
   some ((s.drop 7).take (Lib.indexByte (s.drop 7) 47).toNat, (s.drop 7).drop ((Lib.indexByte (s.drop 7) 47).toNat + 1)) else none)
 else none
def w9 (o : Option (Str × Str)) : Str × Str × Bool := match o with | some (g, f) => (g, f, true) | none => ([], [], false)
def aaA (s : Str) : Nat := if Lib.indexByte s 47 = -1 then s.length else (Lib.indexByte s 47).toNat
theorem ahZ (s : Str) (hs : s.length < 1000000000000000) : ∀ (k i fu : Nat), i + k = s.length → k < fu → e9 fu s (i : Int) = gR s ((i + aaA (s.drop i) : Nat) : Int) := by
 intro k
 induction k with
 | zero =>
  intro i fu hi hf
  obtain ⟨fu, rfl⟩ : ∃ n, fu = n + 1 := ⟨fu - 1, by omega⟩
  rw [e9, bE (v8 (by omega)), List.drop_eq_nil_of_le (by omega)]; simp [aaA, Lib.indexByte]
 | succ k ih =>
  intro i fu hi hf
  obtain ⟨fu, rfl⟩ : ∃ n, fu = n + 1 := ⟨fu - 1, by omega⟩
  have h : i < s.length := by omega
  rw [e9, aT (n4 h), aT (inr h), adD h, List.drop_eq_getElem_cons h]
  by_cases c : s[i].toNat = 47
  ·have e : s[i] = 47 := UInt8.toNat.inj (by simpa using c)
   rw [bE (by simp; omega), e]; simp [aaA, Lib.indexByte]
  ·have e : (s[i] == 47) = false := by simp; intro h; rw [h] at c; simp at c
   rw [aT (by simp; omega), dC (by omega), ih (i + 1) fu (by omega) (by omega)]
   congr 2
   unfold aaA
   rw [Lib.indexByte, e]
   simp only [Bool.false_eq_true, if_false]
   rcases aeO 47 (s.drop (i + 1)) with ⟨h1, h2⟩ | ⟨m, h1, h2, h3, h4⟩
   ·rw [h1]; simp <;> omega
   ·have h5 : ((m : Int) == -1) = false := by simp
    rw [h1, h5]; simp only [Bool.false_eq_true, if_false]; rw [if_neg (by omega), if_neg (by omega)]; omega
theorem aci (s : Str) (hs : s.length < 1000000000000000) : jC s = some (w9 (xE s)) := by
 unfold jC xE
 rw [gW (adh s abl)]
 cases h : qB s abl
 ·rw [aT (by rfl)]; rfl
 ·have hl : 7 ≤ s.length := by simp only [qB, Bool.and_eq_true, decide_eq_true_eq] at h; exact h.1
  have e7 : bU s (some 7) none = s.drop 7 := rfl
  simp only [if_true]
  rw [bE (by rfl), aT (by simp; omega), e7]
  have hj := ahZ (s.drop 7) (by simp; omega) (s.drop 7).length 0 fuel (by omega) (by rw [o8]; simp; omega)
  rw [show ((0 : Nat) : Int) = 0 from rfl, List.drop_zero, Nat.zero_add] at hj
  rw [hj]
  unfold gR aaA
  rcases aeO 47 (s.drop 7) with ⟨h1, h2⟩ | ⟨m, h1, h2, h3, h4⟩
  ·rw [h1, if_pos rfl, if_pos rfl, aT (by simp)]; rfl
  ·have e1 : bU (s.drop 7) none (some (m : Int)) = (s.drop 7).take m := by simp [bU]
   have e2 : bU (s.drop 7) (some ((m + 1 : Nat) : Int)) none = (s.drop 7).drop (m + 1) := by simp only [bU, Int.toNat_natCast]
   have hlt : m < s.length - 7 := by simpa using h2
   rw [h1, if_neg (by omega), if_neg (by omega), Int.toNat_natCast, bE (by simp; omega), aT (by simp; omega), e1, gW (uW _ (by simp; omega))]
   cases tD ((s.drop 7).take m)
   ·rw [aT (by rfl)]; simp [w9]
   ·rw [bE (by rfl), dC (by omega), aT (by simp; omega), e2, gW (acj _)]
    cases w4 ((s.drop 7).drop (m + 1))
    ·rw [aT (by rfl)]; simp [w9]
    ·rw [bE (by rfl), aT (by simp; omega), gW (adh _ _)]
     cases qB ((s.drop 7).drop (m + 1)) abl
     ·rw [bE (by rfl)]
      unfold lB
      rw [aT (by simp; omega), dC (by omega), aT (by simp; omega), e1, e2]
      simp [w9]
     ·rw [aT (by rfl)]; simp [w9]
def adQ (s : Str) : Bool := (xE s).isSome || w4 s && !(qB s abl)
theorem aki (o : Option (Str × Str)) : (w9 o).2.2 = o.isSome := by cases o <;> rfl
theorem ahl (s : Str) (hs : s.length < 1000000000000000) : kO s = some (adQ s) := by
 unfold kO adQ
 rw [gW (aci s hs), aki]
 cases (xE s).isSome
 ·rw [bE (by rfl), gW (acj s)]
  cases w4 s
  ·rw [bE (by rfl)]; rfl
  ·rw [aT (by rfl), gW (adh _ _)]; rfl
 ·rw [aT (by rfl)]; rfl
end Md
end PX
