import Derived.Test.YtojlmojebnlmdaaGreatDoorSessC
set_option linter.unusedVariables false
set_option linter.unusedSimpArgs false
namespace PX
open Go
namespace Md
theorem afW {f : Int → Bool} : ∀ {l : List Int} {a : Int}, lI a l = true → lI a (l.filter f) = true
 | [], _, _ => rfl
 | y :: r, a, h => by
  obtain ⟨h1, h2, h3⟩ := oW.1 h
  have low : ∀ (l : List Int) (a b : Int), a ≤ b → lI b l = true → lI a l = true := fun l a b hab h => by
   cases l with
   | nil => rfl
   | cons z l => obtain ⟨q1, q2, q3⟩ := oW.1 h; exact oW.2 ⟨by omega, q2, q3⟩
  cases hf : f y with
  | true => rw [List.filter_cons_of_pos hf]; exact oW.2 ⟨h1, h2, afW h3⟩
  | false => rw [List.filter_cons_of_neg (by simp [hf])]; exact low _ _ _ (by omega) (afW h3)
theorem ajG (l : List Int) (x : Int) : (m0 l x).length = l.length + 1 := by
 have := congrArg List.length (List.takeWhile_append_dropWhile (p := fun y => decide (y < x)) (l := l))
 simp only [m0, List.length_append, List.length_cons, List.length_nil] at this ⊢
 omega
theorem aop (l : List Int) (x y : Int) : y ∈ m0 l x ↔ y = x ∨ y ∈ l := by
 have h : y ∈ l ↔ y ∈ (l.takeWhile fun y => decide (y < x)) ∨ y ∈ l.dropWhile fun y => decide (y < x) := by
  rw [← List.mem_append, List.takeWhile_append_dropWhile]
 rw [h]
 simp only [m0, List.mem_append, List.mem_singleton]
 constructor
 ·rintro ((h | h) | h)
  ·exact .inr (.inl h)
  ·exact .inl h
  ·exact .inr (.inr h)
 ·rintro (h | h | h)
  ·exact .inl (.inr h)
  ·exact .inl (.inl h)
  ·exact .inr h
theorem aof {x : Int} : ∀ {l : List Int} {a : Int}, lI a l = true → a < x → x ≤ 65535 → x ∉ l → lI a (m0 l x) = true
 | [], a, _, h1, h2, _ => oW.2 ⟨h1, h2, rfl⟩
 | y :: r, a, h, h1, h2, hn => by
  obtain ⟨q1, q2, q3⟩ := oW.1 h
  have hne : x ≠ y := fun e => hn (by simp [e])
  by_cases e : y < x
  ·have : m0 (y :: r) x = y :: m0 r x := by simp [m0, List.takeWhile, List.dropWhile, e]
   rw [this]
   exact oW.2 ⟨q1, q2, aof q3 e h2 (fun hm => hn (by simp [hm]))⟩
  ·have : m0 (y :: r) x = x :: y :: r := by simp [m0, List.takeWhile, List.dropWhile, e]
   rw [this]
   exact oW.2 ⟨h1, h2, oW.2 ⟨by omega, q2, q3⟩⟩
theorem as8 (l : List Int) (x : Int) (hl : l.length ≤ 1000) : qN l x = some (m0 l x) := by
 unfold qN
 have fin : ∀ (i : Nat) (w : List Int), i ≤ l.length → w.length ≤ i → kG l x (i : Int) w = some (w ++ [x] ++ l.drop i) := fun i w hi hw => by
  rw [kG, aO (by simp; omega), aO (by simp; omega), aO (by simp [bQ]; omega)]
  simp [bQ]
 have := rY (l := l) (F := fun fu i (w : List Int) => iS fu l x i w) (g := fun r w => some (w ++ (r.takeWhile fun y => decide (y < x)) ++ [x] ++ r.dropWhile fun y => decide (y < x))) (fun i w => w.length ≤ i)
  (fun fu s hs => by rw [iS, aU (by simp), fin _ _ (Nat.le_refl _) hs]; simp)
  (fun fu i s hi hp ih => by
   rw [iS, aO (eA hi), aO (inr hi), bV hi]
   by_cases e : l[i] < x
   ·rw [aO (by simpa using e), rL, aO (inr hi), bV hi, aO (by simp; omega), bN (by omega), ih _ (by simp; omega)]
    simp [List.takeWhile, List.dropWhile, e]
   ·rw [aU (by simpa using e), fin _ _ (by omega) hp, List.drop_eq_getElem_cons hi]
    simp [List.takeWhile, List.dropWhile, e]) (by omega) [] (Nat.le_refl _)
 simpa [m0] using this
theorem ap6 {x : Int} (h0 : 0 ≤ x) (h1 : x ≤ 65535) : aaf x = some (x % 65535 + 1) := by
 unfold aaf
 rw [Int.tmod_eq_emod_of_nonneg h0, IntKind.wrap_i64]
 congr 1
 omega
theorem apg {x : Int} (h0 : 0 ≤ x) (h1 : x ≤ 65535) : mM x = some (x % 65535 + 1) := by
 unfold mM
 by_cases h : x = 65535
 ·subst h; rfl
 ·rw [aU (by simp; omega), IntKind.wrap_i64]
  congr 1
  omega
def cnd (l : Int) (k : Nat) : Int := (l + k) % 65535 + 1
theorem anW (l : Int) (k : Nat) : cnd l (k + 1) = cnd l k % 65535 + 1 := by unfold cnd; omega
theorem acg (l : Int) (k : Nat) : 1 ≤ cnd l k ∧ cnd l k ≤ 65535 := by unfold cnd; omega
theorem awd (l : Int) {i j : Nat} (h : i < j) (hj : j ≤ 1000) : cnd l i ≠ cnd l j := by unfold cnd; omega
theorem ayy : ∀ (n : Nat) (U : List Int) (c : Nat → Int), U.length = n → (∀ i j, i < j → j ≤ n → c i ≠ c j) → ∃ k, k ≤ n ∧ c k ∉ U := by
 intro n
 induction n with
 | zero =>
  intro U c hU _
  refine ⟨0, Nat.le_refl _, ?_⟩
  rw [List.eq_nil_of_length_eq_zero hU]; simp
 | succ n ih =>
  intro U c hU hc
  by_cases h : c 0 ∈ U
  ·obtain ⟨k, hk, hn⟩ := ih (U.erase (c 0)) (fun k => c (k + 1)) (by rw [List.length_erase_of_mem h]; omega) (fun i j hij hj => hc _ _ (by omega) (by omega))
   exact ⟨k + 1, by omega, fun hm => hn ((List.mem_erase_of_ne (hc 0 (k + 1) (by omega) (by omega)).symm).2 hm)⟩
  ·exact ⟨0, by omega, h⟩
theorem least {P : Nat → Prop} [DecidablePred P] : ∀ (n : Nat), P n → ∃ k, k ≤ n ∧ P k ∧ ∀ j, j < k → ¬ P j := by
 intro n
 induction n using Nat.strongRecOn with
 | ind n ih =>
  intro h
  by_cases hx : ∃ m, m < n ∧ P m
  ·obtain ⟨m, hm, hp⟩ := hx
   obtain ⟨k, h1, h2, h3⟩ := ih m hm hp
   exact ⟨k, by omega, h2, h3⟩
  ·exact ⟨n, Nat.le_refl _, h, fun j hj hp => hx ⟨j, hj, hp⟩⟩
theorem apJ {l : List Int} (x : Int) (hl : l.length ≤ 1000) : l8 l (oB l x : Int) [x] = some (m0 l x) := by
 have hc := ap8 l x
 unfold l8 aoW
 rw [aO (by simp; omega)]
 unfold m0
 rw [← ahk, ← amj]
 rfl
theorem aww {p : aN} (h : poolE p = 0) (hl : p.Used.length ≤ 31) : ∃ x, 1 ≤ x ∧ x ≤ 65535 ∧ x ∉ p.Used ∧ aaw p = some (x, ⟨m0 p.Used x, x⟩, 0) ∧ qR p = some (x, ⟨m0 p.Used x, x⟩, 0) := by
 obtain ⟨_, ha, h0, h1⟩ := w9 h
 obtain ⟨n, hn, hnm⟩ := ayy p.Used.length p.Used (cnd p.Last) rfl (fun i j hij hj => awd _ hij (by omega))
 obtain ⟨k, hk, hkm, hkl⟩ := least (P := fun k => cnd p.Last k ∉ p.Used) n hnm
 have hin : ∀ j, j < k → p.Used.contains (cnd p.Last j) = true := fun j hj => by have := hkl j hj; simpa using this
 have hout : p.Used.contains (cnd p.Last k) = false := by simpa using hkm
 refine ⟨cnd p.Last k, (acg _ _).1, (acg _ _).2, hkm, ?_, ?_⟩
 ·unfold aaw
  rw [aU (by simp; omega), bN (by omega)]
  have key : ∀ (d j fu : Nat) (x : Int) (z : aN), j + d = k → d < fu → 0 ≤ x → x ≤ 65535 → x % 65535 + 1 = cnd p.Last j → oT fu x ((p.Used.length + 1 : Nat) : Int) (j : Int) p z = some (cnd p.Last k, ⟨m0 p.Used (cnd p.Last k), cnd p.Last k⟩, 0) := by
   intro d
   induction d with
   | zero =>
    intro j fu x z hj hf x0 x1 hx
    obtain ⟨fu, rfl⟩ : ∃ n, fu = n + 1 := ⟨fu - 1, by omega⟩
    obtain rfl : j = k := by omega
    rw [oT, aO (by simp; omega), ap6 x0 x1, bD, hx, adP _ (adg ha) (by omega), bD, hout]
    simp only [Bool.not_false, cA]
    rw [abB (by omega), bD, apJ _ (by omega), bD]
   | succ d ih =>
    intro j fu x z hj hf x0 x1 hx
    obtain ⟨fu, rfl⟩ : ∃ n, fu = n + 1 := ⟨fu - 1, by omega⟩
    rw [oT, aO (by simp; omega), ap6 x0 x1, bD, hx, adP _ (adg ha) (by omega), bD, hin j (by omega)]
    simp only [Bool.not_true, cS]
    rw [bN (by omega)]
    exact ih (j + 1) fu _ z (by omega) (by omega) (by have := acg p.Last j; omega) (acg _ _).2 (anW _ _).symm
  exact key k 0 fuel p.Last _ (by omega) (by rw [fX]; omega) h0 h1 (by unfold cnd; simp)
 ·unfold qR
  rw [aU (by simp; omega), apg h0 h1, bD]
  have j8 : ∀ z, j7 (cnd p.Last k) p z = some (cnd p.Last k, ⟨m0 p.Used (cnd p.Last k), cnd p.Last k⟩, 0) := fun z => by
   unfold j7
   rw [as8 _ _ (by omega), bD]
  have key : ∀ (d j fu : Nat) (z : aN), j + d = k → d < fu → iX fu (cnd p.Last j) (j : Int) p z = some (cnd p.Last k, ⟨m0 p.Used (cnd p.Last k), cnd p.Last k⟩, 0) := by
   intro d
   induction d with
   | zero =>
    intro j fu z hj hf
    obtain ⟨fu, rfl⟩ : ∃ n, fu = n + 1 := ⟨fu - 1, by omega⟩
    obtain rfl : j = k := by omega
    rw [iX, aO (by simp; omega), acV _ _ (by omega), bD, hout, cS, j8]
   | succ d ih =>
    intro j fu z hj hf
    obtain ⟨fu, rfl⟩ : ∃ n, fu = n + 1 := ⟨fu - 1, by omega⟩
    rw [iX, aO (by simp; omega), acV _ _ (by omega), bD, hin j (by omega), cA, apg (by have := acg p.Last j; omega) (acg _ _).2, bD, bN (by omega), ← anW]
    exact ih (j + 1) fu z (by omega) (by omega)
  have := key k 0 fuel (aN.mk ([] : List Int) 0) (by omega) (by rw [fX]; omega)
  simpa [cnd] using this
def okT (m : aA) : Prop := gT m = 0 ∧ m.good
structure WOK (w : aI) : Prop where
 g : w.good
 l0 : 0 ≤ w.Limit
 l1 : w.Limit ≤ 32
 pool : poolE w.Pool = 0
 len : w.Items.length ≤ 32
 used : w.Pool.Used.length ≤ w.Items.length
 mem : ∀ x ∈ w.Items, x.ID ∈ w.Pool.Used
 nodup : (w.Items.map (·.ID)).Nodup
 ok : ∀ x ∈ w.Items, flightE x = 0
theorem ajW {used : List Int} : ∀ {l seen : List aD}, qZ used seen l = 0 ↔ (∀ x ∈ l, x.ID ∈ used ∧ flightE x = 0 ∧ x.ID ∉ seen.map (·.ID)) ∧ (l.map (·.ID)).Nodup
 | [], _ => by simp [qZ]
 | x :: r, seen => by
  have h1 : vY used seen x = 0 ↔ x.ID ∈ used ∧ flightE x = 0 ∧ x.ID ∉ seen.map (·.ID) := by
   unfold vY
   by_cases a : x.ID ∈ used
   ·rw [aO (by simpa using a)]
    by_cases b : x.ID ∈ seen.map (·.ID)
    ·rw [aO (by simpa using b)]; simp [b]
    ·have : (seen.any fun y => y.ID == x.ID) = false := by
      rw [Bool.eq_false_iff]; intro h; apply b; simpa using h
     rw [this, cS]; simp [a, b]
   ·rw [aU (by simpa using a)]; simp [a]
  rw [qZ]
  by_cases e : vY used seen x = 0
  ·rw [aO (by simpa using e), ajW, List.map_cons, List.nodup_cons]
   have e1 := h1.1 e
   constructor
   ·rintro ⟨q1, q2⟩
    refine ⟨?_, ?_, q2⟩
    ·intro y hy
     rcases List.mem_cons.1 hy with rfl | hy
     ·exact e1
     ·have := q1 y hy; simp at this ⊢; exact ⟨this.1, this.2.1, this.2.2.1⟩
    ·intro hm
     obtain ⟨y, hy, he⟩ := List.mem_map.1 hm
     have := (q1 y hy).2.2
     simp [he] at this
   ·rintro ⟨q1, q2, q3⟩
    refine ⟨?_, q3⟩
    intro y hy
    have := q1 y (by simp [hy])
    refine ⟨this.1, this.2.1, ?_⟩
    rw [List.map_append, List.mem_append]
    rintro (h | h)
    ·exact this.2.2 h
    ·simp at h
     exact q2 (List.mem_map.2 ⟨y, hy, h⟩)
  ·rw [aU (by simpa using e)]
   constructor
   ·intro h; exact absurd h e
   ·rintro ⟨q1, _⟩; exact absurd (h1.2 (q1 x (by simp))) e
theorem WOK.zero {w : aI} (h : WOK w) : aaL w = 0 := by
 unfold aaL
 have h0 := h.l0
 have h1 := h.l1
 have h2 := h.len
 have h3 := h.used
 rw [aU (by simp; omega), aU (by simp; omega), h.pool, aO (by rfl), aU (by simp; omega), ajW.2 ⟨fun x hx => ⟨h.mem x hx, h.ok x hx, by simp⟩, h.nodup⟩, aO (by rfl), aU (by simp; omega)]
def ari (w : aI) : Prop := w.Items.length ≤ 1000 ∧ (∀ f ∈ w.Items, f.Message.Props.length ≤ 1000) ∧ w.Pool.Used.length ≤ 1000
theorem acf {m : aA} (h : m.Props.length ≤ 1000) : lL m = some m := by
 unfold lL
 rw [amb (by omega), bD]
theorem abw {w : aI} (h : ari w) : iA w = some w := by
 obtain ⟨h1, h2, h3⟩ := h
 unfold iA
 rw [bN (by omega), aO (by simp; omega)]
 have key : ∀ (z : aI) (k i fu : Nat), i + k = w.Items.length → k < fu → j1 fu w.Items (w.Items.length : Int) (i : Int) w z (w.Items.take i) = some w := by
  intro z k
  induction k with
  | zero =>
   intro i fu hi hf
   obtain ⟨fu, rfl⟩ : ∃ n, fu = n + 1 := ⟨fu - 1, by omega⟩
   rw [j1, aU (mX (by omega)), abB (by omega), bD, List.take_of_length_le (by omega)]
  | succ k ih =>
   intro i fu hi hf
   obtain ⟨fu, rfl⟩ : ∃ n, fu = n + 1 := ⟨fu - 1, by omega⟩
   have hil : i < w.Items.length := by omega
   rw [j1, aO (eA hil), aO (inr hil), bV hil, acf (h2 _ (List.getElem_mem _)), bD, aO (by simp; omega), bN (by omega), abi]
   exact ih (i + 1) fu (by omega) (by omega)
 exact key _ w.Items.length 0 fuel (by omega) (by rw [fX]; omega)
theorem WOK.lit {w : aI} (h : WOK w) : ari w := by
 have h2 := h.len
 have h3 := h.used
 refine ⟨by omega, fun f hf => ?_, by omega⟩
 have := l5 (aek (h.ok f hf)); omega
def aiC : aI := aI.mk 0 ([] : List aD) (aN.mk ([] : List Int) 0)
def yY (id : Int) (dup : Bool) (m : aA) : aC := aC.mk 3 id dup m ([] : Str) ([] : Str) false 0 0 0 (aT.mk false 0 (aA.mk ([] : Str) ([] : Str) 0 false 0 0 ([] : Str) 0 ([] : List aG))) false 0 ([] : List aF) ([] : List Str) ([] : List Int)
def begun (w : aI) (m : aA) (x : Int) : aI := aI.mk w.Limit (w.Items ++ [aD.mk x 1 m]) ⟨m0 w.Pool.Used x, x⟩
theorem acn {w : aI} (h : WOK w) : uW w = some (if w.Limit ≤ w.Items.length then 0 else w.Limit - w.Items.length) ∧ nR w = some (if w.Limit ≤ w.Items.length then 0 else w.Limit - w.Items.length) := by
 have h0 := h.l0
 have h1 := h.l1
 have h2 := h.len
 have e : IntKind.wrap .i64 (w.Limit - (w.Items.length : Int)) = w.Limit - w.Items.length := by rw [IntKind.wrap_i64]; omega
 unfold uW nR
 rw [e]
 by_cases c : w.Limit ≤ w.Items.length
 ·rw [if_pos c]
  constructor
  ·congr 1; split <;> omega
  ·rw [aO (by simpa using c)]
 ·rw [if_neg c]
  constructor
  ·congr 1; split <;> omega
  ·rw [aU (by simpa using c)]
theorem aqK {p : aN} (h : poolE p = 0) (hl : p.Used.length ≤ 31) {x : Int} (h0 : 1 ≤ x) (h1 : x ≤ 65535) (hx : x ∉ p.Used) : poolE ⟨m0 p.Used x, x⟩ = 0 := by
 obtain ⟨_, ha, _, _⟩ := w9 h
 unfold poolE adV
 rw [aU (by rw [ajG]; simp; omega), aof ha (by omega) h1 hx, cA, aU (by simp; omega), aU (by simp; omega)]
theorem nB {x : Int} (h0 : -9223372036854775808 ≤ x) (h1 : x ≤ 9223372036854775807) : okI .i64 x := by
 simp only [okI, Go.Lit.wf, Go.IntKind.min, Go.IntKind.max, Go.IntKind.signed, Go.IntKind.bits, Bool.and_eq_true, decide_eq_true_eq, if_true]
 omega
theorem aqy {w : aI} (g : w.good) (hl : w.Items.length ≤ 32) (hu : w.Pool.Used.length ≤ 32) {m : aA} (hm : m.good) {x : Int} (h0 : 1 ≤ x) (h1 : x ≤ 65535) : (begun w m x).good := by
 have gx : okI .i64 x := nB (by omega) (by omega)
 refine ⟨g.1, ⟨by simp [begun]; omega, ?_⟩, ⟨by simp [begun, ajG]; omega, ?_⟩, gx⟩
 ·intro y hy
  rcases List.mem_append.1 hy with hy | hy
  ·exact g.2.1.2 y hy
  ·rw [List.mem_singleton] at hy; rw [hy]; exact ⟨gx, nB (x := 1) (by decide) (by decide), hm⟩
 ·intro y hy
  rcases (aop _ _ _).1 hy with rfl | hy
  ·exact gx
  ·exact g.2.2.1.2 y hy
theorem anI {w : aI} (h : WOK w) (hl : w.Items.length < w.Limit) {m : aA} (hm : okT m) (hv : m.Level ≠ 0) {x : Int} (h0 : 1 ≤ x) (h1 : x ≤ 65535) (hx : x ∉ w.Pool.Used) : WOK (begun w m x) := by
 have a1 := h.l1
 have a2 := h.used
 have a3 := h.len
 refine ⟨aqy h.g (by omega) (by omega) hm.2 h0 h1, h.l0, h.l1, aqK h.pool (by omega) h0 h1 hx, by simp [begun]; omega, by simp [begun, ajG]; omega, ?_, ?_, ?_⟩
 ·intro y hy
  rw [show (begun w m x).Pool.Used = m0 w.Pool.Used x from rfl, aop]
  rcases List.mem_append.1 hy with hy | hy
  ·exact .inr (h.mem y hy)
  ·rw [List.mem_singleton] at hy; rw [hy]; exact .inl rfl
 ·show ((w.Items ++ [aD.mk x 1 m]).map (·.ID)).Nodup
  rw [List.map_append, List.nodup_append]
  refine ⟨h.nodup, by simp, ?_⟩
  intro a ha b hb
  simp at hb
  obtain ⟨y, hy, rfl⟩ := List.mem_map.1 ha
  rw [hb]
  intro e
  exact hx (by rw [← e]; exact h.mem y hy)
 ·intro y hy
  rcases List.mem_append.1 hy with hy | hy
  ·exact h.ok y hy
  ·rw [List.mem_singleton] at hy
   rw [hy]
   unfold flightE
   rw [show gT m = 0 from hm.1, aO (by rfl), aU (by simpa using hv), aO (by rfl)]
theorem start_eq {w : aI} (h : WOK w) (hl : w.Items.length < w.Limit) {m : aA} (hm : okT m) (hv : m.Level ≠ 0) : ∃ x, 1 ≤ x ∧ x ≤ 65535 ∧ x ∉ w.Pool.Used ∧ nL w m = some (begun w m x, yY x false m, 0) ∧ pE w m = some (begun w m x, yY x false m, 0) := by
 have a1 := h.l1
 have a2 := h.used
 have a3 := l5 hm.1
 obtain ⟨x, x0, x1, x2, e1, e2⟩ := aww h.pool (by omega)
 have hz : (if w.Limit ≤ w.Items.length then (0 : Int) else w.Limit - w.Items.length) ≠ 0 := by rw [if_neg (by omega)]; omega
 refine ⟨x, x0, x1, x2, ?_, ?_⟩
 ·unfold nL
  rw [aU (by simpa using hv), (acn h).1, bD, aU (by simpa using hz), uM _ (l9 hm.2), bD, hm.1, aU (by rfl), e1, bD, aU (by rfl), abw h.lit, bD, acf (by omega), bD, aO (by simp; omega)]
  unfold nK
  rw [acf (by show m.Props.length ≤ 1000; omega)]
  rfl
 ·unfold pE
  rw [aU (by simpa using hv), (acn h).2, bD, aU (by simpa using hz), qJ _ (l9 hm.2), bD, hm.1, aU (by rfl), e2, bD, aO (by simp; omega), aO (by simp; omega)]
  rfl
end Md
end PX
