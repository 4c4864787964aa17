import Derived.Test.YtahbfpamckocmaaGreatDoorSessC
set_option linter.unusedVariables false
set_option linter.unusedSimpArgs false
namespace PX
open Go
namespace Md
theorem acC {f : Int → Bool} : ∀ {l : List Int} {a : Int}, nB a l = true → nB a (l.filter f) = true
 | [], _, _ => rfl
 | y :: r, a, h => by
  obtain ⟨h1, h2, h3⟩ := nH.1 h
  have low : ∀ (l : List Int) (a b : Int), a ≤ b → nB b l = true → nB a l = true := fun l a b hab h => by
   cases l with
   | nil => rfl
   | cons z l => obtain ⟨q1, q2, q3⟩ := nH.1 h; exact nH.2 ⟨by omega, q2, q3⟩
  cases hf : f y with
  | true => rw [List.filter_cons_of_pos hf]; exact nH.2 ⟨h1, h2, acC h3⟩
  | false => rw [List.filter_cons_of_neg (by simp [hf])]; exact low _ _ _ (by omega) (acC h3)
theorem agd (l : List Int) (x : Int) : (pF l x).length = l.length + 1 := by
 have := congrArg List.length (List.takeWhile_append_dropWhile (p := fun y => decide (y < x)) (l := l))
 simp only [pF, List.length_append, List.length_cons, List.length_nil] at this ⊢
 omega
theorem akk (l : List Int) (x y : Int) : y ∈ pF l x ↔ y = x ∨ y ∈ l := by
 have h : y ∈ l ↔ y ∈ (l.takeWhile fun y => decide (y < x)) ∨ y ∈ l.dropWhile fun y => decide (y < x) := by
  rw [← List.mem_append, List.takeWhile_append_dropWhile]
 rw [h]
 simp only [pF, List.mem_append, List.mem_singleton]
 constructor
 ·rintro ((h | h) | h)
  ·exact .inr (.inl h)
  ·exact .inl h
  ·exact .inr (.inr h)
 ·rintro (h | h | h)
  ·exact .inl (.inr h)
  ·exact .inl (.inl h)
  ·exact .inr h
theorem akh {x : Int} : ∀ {l : List Int} {a : Int}, nB a l = true → a < x → x ≤ 65535 → x ∉ l → nB a (pF l x) = true
 | [], a, _, h1, h2, _ => nH.2 ⟨h1, h2, rfl⟩
 | y :: r, a, h, h1, h2, hn => by
  obtain ⟨q1, q2, q3⟩ := nH.1 h
  have hne : x ≠ y := fun e => hn (by simp [e])
  by_cases e : y < x
  ·have : pF (y :: r) x = y :: pF r x := by simp [pF, List.takeWhile, List.dropWhile, e]
   rw [this]
   exact nH.2 ⟨q1, q2, akh q3 e h2 (fun hm => hn (by simp [hm]))⟩
  ·have : pF (y :: r) x = x :: y :: r := by simp [pF, List.takeWhile, List.dropWhile, e]
   rw [this]
   exact nH.2 ⟨h1, h2, nH.2 ⟨by omega, q2, q3⟩⟩
theorem al0 {x : Int} (h0 : 0 ≤ x) (h1 : x ≤ 65535) : wY x = some (x % 65535 + 1) := by
 unfold wY
 rw [Int.tmod_eq_emod_of_nonneg h0, IntKind.wrap_i64]
 congr 1
 omega
def cnd (l : Int) (k : Nat) : Int := (l + k) % 65535 + 1
theorem apR (l : Int) (k : Nat) : cnd l (k + 1) = cnd l k % 65535 + 1 := by unfold cnd; omega
theorem afb (l : Int) (k : Nat) : 1 ≤ cnd l k ∧ cnd l k ≤ 65535 := by unfold cnd; omega
theorem arE (l : Int) {i j : Nat} (h : i < j) (hj : j ≤ 1000) : cnd l i ≠ cnd l j := by unfold cnd; omega
theorem arY : ∀ (n : Nat) (U : List Int) (c : Nat → Int), U.length = n → (∀ i j, i < j → j ≤ n → c i ≠ c j) → ∃ k, k ≤ n ∧ c k ∉ U := by
 intro n
 induction n with
 | zero =>
  intro U c hU _
  refine ⟨0, Nat.le_refl _, ?_⟩
  rw [List.eq_nil_of_length_eq_zero hU]; simp
 | succ n ih =>
  intro U c hU hc
  by_cases h : c 0 ∈ U
  ·obtain ⟨k, hk, hn⟩ := ih (U.erase (c 0)) (fun k => c (k + 1)) (by rw [List.length_erase_of_mem h]; omega) (fun i j hij hj => hc _ _ (by omega) (by omega))
   exact ⟨k + 1, by omega, fun hm => hn ((List.mem_erase_of_ne (hc 0 (k + 1) (by omega) (by omega)).symm).2 hm)⟩
  ·exact ⟨0, by omega, h⟩
theorem least {P : Nat → Prop} [DecidablePred P] : ∀ (n : Nat), P n → ∃ k, k ≤ n ∧ P k ∧ ∀ j, j < k → ¬ P j := by
 intro n
 induction n using Nat.strongRecOn with
 | ind n ih =>
  intro h
  by_cases hx : ∃ m, m < n ∧ P m
  ·obtain ⟨m, hm, hp⟩ := hx
   obtain ⟨k, h1, h2, h3⟩ := ih m hm hp
   exact ⟨k, by omega, h2, h3⟩
  ·exact ⟨n, Nat.le_refl _, h, fun j hj hp => hx ⟨j, hj, hp⟩⟩
theorem alB {l : List Int} (x : Int) (hl : l.length ≤ 1000) : kK l (mO l x : Int) [x] = some (pF l x) := by
 have hc := alW l x
 unfold kK ams
 rw [aM (by simp; omega)]
 unfold pF
 rw [← aeo, ← ai1]
 rfl
def okT (m : aA) : Prop := checkM m = 0 ∧ m.good
structure WOK (w : aH) : Prop where
 g : w.good
 l0 : 0 ≤ w.Limit
 l1 : w.Limit ≤ 32
 pool : poolE w.Pool = 0
 len : w.Items.length ≤ 32
 used : w.Pool.Used.length ≤ w.Items.length
 mem : ∀ x ∈ w.Items, x.ID ∈ w.Pool.Used
 nodup : (w.Items.map (·.ID)).Nodup
 ok : ∀ x ∈ w.Items, flightE x = 0
theorem ags {used : List Int} : ∀ {l seen : List aB}, oV used seen l = 0 ↔ (∀ x ∈ l, x.ID ∈ used ∧ flightE x = 0 ∧ x.ID ∉ seen.map (·.ID)) ∧ (l.map (·.ID)).Nodup
 | [], _ => by simp [oV]
 | x :: r, seen => by
  have h1 : uV used seen x = 0 ↔ x.ID ∈ used ∧ flightE x = 0 ∧ x.ID ∉ seen.map (·.ID) := by
   unfold uV
   by_cases a : x.ID ∈ used
   ·rw [aM (by simpa using a)]
    by_cases b : x.ID ∈ seen.map (·.ID)
    ·rw [aM (by simpa using b)]; simp [b]
    ·have : (seen.any fun y => y.ID == x.ID) = false := by
      rw [Bool.eq_false_iff]; intro h; apply b; simpa using h
     rw [this, dL]; simp [a, b]
   ·rw [aN (by simpa using a)]; simp [a]
  rw [oV]
  by_cases e : uV used seen x = 0
  ·rw [aM (by simpa using e), ags, List.map_cons, List.nodup_cons]
   have e1 := h1.1 e
   constructor
   ·rintro ⟨q1, q2⟩
    refine ⟨?_, ?_, q2⟩
    ·intro y hy
     rcases List.mem_cons.1 hy with rfl | hy
     ·exact e1
     ·have := q1 y hy; simp at this ⊢; exact ⟨this.1, this.2.1, this.2.2.1⟩
    ·intro hm
     obtain ⟨y, hy, he⟩ := List.mem_map.1 hm
     have := (q1 y hy).2.2
     simp [he] at this
   ·rintro ⟨q1, q2, q3⟩
    refine ⟨?_, q3⟩
    intro y hy
    have := q1 y (by simp [hy])
    refine ⟨this.1, this.2.1, ?_⟩
    rw [List.map_append, List.mem_append]
    rintro (h | h)
    ·exact this.2.2 h
    ·simp at h
     exact q2 (List.mem_map.2 ⟨y, hy, h⟩)
  ·rw [aN (by simpa using e)]
   constructor
   ·intro h; exact absurd h e
   ·rintro ⟨q1, _⟩; exact absurd (h1.2 (q1 x (by simp))) e
theorem WOK.zero {w : aH} (h : WOK w) : aaB w = 0 := by
 unfold aaB
 have h0 := h.l0
 have h1 := h.l1
 have h2 := h.len
 have h3 := h.used
 rw [aN (by simp; omega), aN (by simp; omega), h.pool, aM (by rfl), aN (by simp; omega), ags.2 ⟨fun x hx => ⟨h.mem x hx, h.ok x hx, by simp⟩, h.nodup⟩, aM (by rfl), aN (by simp; omega)]
def apV (w : aH) : Prop := w.Items.length ≤ 1000 ∧ (∀ f ∈ w.Items, f.Message.Props.length ≤ 1000) ∧ w.Pool.Used.length ≤ 1000
theorem zY {m : aA} (h : m.Props.length ≤ 1000) : kM m = some m := by
 unfold kM
 rw [aiP (by omega), aU]
theorem aby {w : aH} (h : apV w) : hZ w = some w := by
 obtain ⟨h1, h2, h3⟩ := h
 unfold hZ
 rw [cG (by omega), aM (by simp; omega)]
 have key : ∀ (z : aH) (k i fu : Nat), i + k = w.Items.length → k < fu → jI fu w.Items (w.Items.length : Int) (i : Int) w z (w.Items.take i) = some w := by
  intro z k
  induction k with
  | zero =>
   intro i fu hi hf
   obtain ⟨fu, rfl⟩ : ∃ n, fu = n + 1 := ⟨fu - 1, by omega⟩
   rw [jI, aN (zG (by omega)), zC (by omega), aU, List.take_of_length_le (by omega)]
  | succ k ih =>
   intro i fu hi hf
   obtain ⟨fu, rfl⟩ : ∃ n, fu = n + 1 := ⟨fu - 1, by omega⟩
   have hil : i < w.Items.length := by omega
   rw [jI, aM (lL hil), aM (inr hil), dV hil, zY (h2 _ (List.getElem_mem _)), aU, aM (by simp; omega), cG (by omega), zA]
   exact ih (i + 1) fu (by omega) (by omega)
 exact key _ w.Items.length 0 fuel (by omega) (by rw [fU]; omega)
theorem WOK.lit {w : aH} (h : WOK w) : apV w := by
 have h2 := h.len
 have h3 := h.used
 refine ⟨by omega, fun f hf => ?_, by omega⟩
 have := mM (uJ (h.ok f hf)); omega
def ahX : aH := aH.mk 0 ([] : List aB) (aQ.mk ([] : List Int) 0)
def aeK (id : Int) (dup : Bool) (m : aA) : aF := aF.mk 3 id dup m ([] : Str) ([] : Str) false 0 0 0 (aV.mk false 0 (aA.mk ([] : Str) ([] : Str) 0 false 0 0 ([] : Str) 0 ([] : List aD))) false 0 ([] : List aG) ([] : List Str) ([] : List Int)
def begun (w : aH) (m : aA) (x : Int) : aH := aH.mk w.Limit (w.Items ++ [aB.mk x 1 m]) ⟨pF w.Pool.Used x, x⟩
theorem am4 {p : aQ} (h : poolE p = 0) (hl : p.Used.length ≤ 31) {x : Int} (h0 : 1 ≤ x) (h1 : x ≤ 65535) (hx : x ∉ p.Used) : poolE ⟨pF p.Used x, x⟩ = 0 := by
 obtain ⟨_, ha, _, _⟩ := pL h
 unfold poolE aff
 rw [aN (by rw [agd]; simp; omega), akh ha (by omega) h1 hx, cS, aN (by simp; omega), aN (by simp; omega)]
theorem kD {x : Int} (h0 : -9223372036854775808 ≤ x) (h1 : x ≤ 9223372036854775807) : okI .i64 x := by
 simp only [okI, Go.Lit.wf, Go.IntKind.min, Go.IntKind.max, Go.IntKind.signed, Go.IntKind.bits, Bool.and_eq_true, decide_eq_true_eq, if_true]
 omega
theorem anc {w : aH} (g : w.good) (hl : w.Items.length ≤ 32) (hu : w.Pool.Used.length ≤ 32) {m : aA} (hm : m.good) {x : Int} (h0 : 1 ≤ x) (h1 : x ≤ 65535) : (begun w m x).good := by
 have gx : okI .i64 x := kD (by omega) (by omega)
 refine ⟨g.1, ⟨by simp [begun]; omega, ?_⟩, ⟨by simp [begun, agd]; omega, ?_⟩, gx⟩
 ·intro y hy
  rcases List.mem_append.1 hy with hy | hy
  ·exact g.2.1.2 y hy
  ·rw [List.mem_singleton] at hy; rw [hy]; exact ⟨gx, kD (x := 1) (by decide) (by decide), hm⟩
 ·intro y hy
  rcases (akk _ _ _).1 hy with rfl | hy
  ·exact gx
  ·exact g.2.2.1.2 y hy
theorem apJ {w : aH} (h : WOK w) (hl : w.Items.length < w.Limit) {m : aA} (hm : okT m) (hv : m.Level ≠ 0) {x : Int} (h0 : 1 ≤ x) (h1 : x ≤ 65535) (hx : x ∉ w.Pool.Used) : WOK (begun w m x) := by
 have a1 := h.l1
 have a2 := h.used
 have a3 := h.len
 refine ⟨anc h.g (by omega) (by omega) hm.2 h0 h1, h.l0, h.l1, am4 h.pool (by omega) h0 h1 hx, by simp [begun]; omega, by simp [begun, agd]; omega, ?_, ?_, ?_⟩
 ·intro y hy
  rw [show (begun w m x).Pool.Used = pF w.Pool.Used x from rfl, akk]
  rcases List.mem_append.1 hy with hy | hy
  ·exact .inr (h.mem y hy)
  ·rw [List.mem_singleton] at hy; rw [hy]; exact .inl rfl
 ·show ((w.Items ++ [aB.mk x 1 m]).map (·.ID)).Nodup
  rw [List.map_append, List.nodup_append]
  refine ⟨h.nodup, by simp, ?_⟩
  intro a ha b hb
  simp at hb
  obtain ⟨y, hy, rfl⟩ := List.mem_map.1 ha
  rw [hb]
  intro e
  exact hx (by rw [← e]; exact h.mem y hy)
 ·intro y hy
  rcases List.mem_append.1 hy with hy | hy
  ·exact h.ok y hy
  ·rw [List.mem_singleton] at hy
   rw [hy]
   unfold flightE
   rw [show checkM m = 0 from hm.1, aM (by rfl), aN (by simpa using hv), aM (by rfl)]
end Md
end PX
