import Derived.Test.YtojlmojebnlmdaaGreatDoorSessP
set_option linter.unusedVariables false
set_option linter.unusedSimpArgs false
namespace PX
open Go
namespace Md
theorem amI (id : Int) : ∀ (l : List aD) (k : Int), (vM id k l = -1 ∧ ∀ x ∈ l, x.ID ≠ id) ∨ ∃ A f B, l = A ++ f :: B ∧ f.ID = id ∧ vM id k l = k + A.length
 | [], _ => .inl ⟨rfl, by simp⟩
 | x :: r, k => by
  rw [vM]
  by_cases e : x.ID = id
  ·rw [aN (by simpa using e)]
   exact .inr ⟨[], x, r, rfl, e, by simp⟩
  ·rw [aT (by simpa using e)]
   rcases amI id r (k + 1) with ⟨h1, h2⟩ | ⟨A, f, B, h1, h2, h3⟩
   ·exact .inl ⟨h1, by intro y hy; rcases List.mem_cons.1 hy with rfl | hy; exact e; exact h2 y hy⟩
   ·refine .inr ⟨x :: A, f, B, by rw [h1]; rfl, h2, ?_⟩
    rw [h3, List.length_cons]; omega
def yX (id : Int) : aC := aC.mk 6 id false (aA.mk ([] : Str) ([] : Str) 0 false 0 0 ([] : Str) 0 ([] : List aG)) ([] : Str) ([] : Str) false 0 0 0 (aU.mk false 0 (aA.mk ([] : Str) ([] : Str) 0 false 0 0 ([] : Str) 0 ([] : List aG))) false 0 ([] : List aF) ([] : List Str) ([] : List Int)
theorem ahD (id : Int) : oS id = some (yX id) := rfl
theorem abS (id : Int) : lJ id = some (yX id) := rfl
theorem ahs (id : Int) : pOK (yX id) := ⟨Nat.zero_le _, Nat.zero_le _, rfl, rfl, rfl⟩
def uK (w : aI) (A : List aD) (f : aD) (B : List aD) : aI := aI.mk w.Limit (A ++ B) ⟨w.Pool.Used.filter (fun y => y != f.ID), w.Pool.Last⟩
def yY (w : aI) (A : List aD) (f : aD) (B : List aD) : aI := aI.mk w.Limit (A ++ aD.mk f.ID 2 f.Message :: B) w.Pool
theorem filter_lt {x : Int} {l : List Int} (hm : x ∈ l) : (l.filter fun y => y != x).length < l.length := by
 rcases Nat.lt_or_ge (l.filter fun y => y != x).length l.length with q | q
 ·exact q
 ·have := List.filter_eq_self.1 (List.Sublist.eq_of_length_le List.filter_sublist q) x hm
  simp at this
theorem awj {p : aO} (h : poolE p = 0) {x : Int} (hx : x ∈ p.Used) : aag p x = some (⟨p.Used.filter (fun y => y != x), p.Last⟩, true) := by
 obtain ⟨h1, ha, _, _⟩ := w7 h
 have hc : p.Used.contains x = true := by simpa using hx
 unfold aag
 rw [abC (by omega), bB, ad9 x (acT ha) (by omega), bB, hc]
 have hlt : oM p.Used x < p.Used.length := by
  have e := congrArg List.length (ain ha hc)
  have := filter_lt hx
  have hle := ap3 p.Used x
  rcases Nat.lt_or_ge (oM p.Used x) p.Used.length with h' | h'
  ·exact h'
  ·have h2 : oM p.Used x = p.Used.length := by omega
   rw [h2] at e
   simp at e
   omega
 rw [cH, bM (by omega)]
 unfold rE ahC
 rw [aN (by simp; omega), bB, ← ain ha hc]
 rfl
theorem ajS {w : aI} {A B : List aD} {f : aD} (e : w.Items = A ++ f :: B) : A.length < w.Items.length ∧ w.Items.getD A.length default = f ∧ w.Items.take A.length = A ∧ w.Items.drop (A.length + 1) = B := by
 rw [e]
 refine ⟨by simp, by simp, by simp, ?_⟩
 rw [show A ++ f :: B = (A ++ [f]) ++ B by simp, show A.length + 1 = (A ++ [f]).length by simp, List.drop_left]
theorem ar1 {w : aI} (h : WOK w) {A B : List aD} {f : aD} (e : w.Items = A ++ f :: B) : o5 w (A.length : Int) = some (uK w A f B) ∧ nM w (A.length : Int) = some (uK w A f B) := by
 obtain ⟨h1, h2, h3, h4⟩ := ajS e
 have hl := h.len
 have hu := h.used
 have hx : f.ID ∈ w.Pool.Used := h.mem f (by rw [e]; simp)
 have t1 : Int.toNat (A.length : Int) = A.length := by simp
 have t2 : Int.toNat ((A.length + 1 : Nat) : Int) = A.length + 1 := by simp
 constructor
 ·unfold o5
  rw [aN (inr h1), t1, h2, awj h.pool hx, bB, adJ h.lit, bB, bM (by omega)]
  unfold iX ahC
  rw [aN (by simp; omega), bB, t1, t2, h3, h4]; rfl
 ·unfold nM
  have c1 : bR w.Items none (some (A.length : Int)) = A := by simp [bR, h3]
  have c2 : bR w.Items (some ((A.length + 1 : Nat) : Int)) none = B := by
   rw [← h4]; simp [bR]
  have hB : A.length + (B.length + 1) = w.Items.length := by rw [e]; simp
  rw [aN (inr h1), t1, h2, amO _ _ (by omega), bB, aN (by simp; omega), c1, aN (by simp; omega), bM (by omega), aN (by simp; omega), c2, aN (by simp; omega)]
  rfl
theorem ao6 {w : aI} (h : WOK w) {A B : List aD} {f : aD} (e : w.Items = A ++ f :: B) : mG w (A.length : Int) = some (yY w A f B) := by
 obtain ⟨h1, h2, h3, h4⟩ := ajS e
 have hl := h.len
 have t1 : Int.toNat (A.length : Int) = A.length := by simp
 have c1 : bR w.Items none (some (A.length : Int)) = A := by simp [bR, h3]
 have c2 : bR w.Items (some ((A.length + 1 : Nat) : Int)) none = B := by
  rw [← h4]; simp [bR]
 have hB : A.length + (B.length + 1) = w.Items.length := by rw [e]; simp
 unfold mG
 rw [c1, bM (by omega), c2, t1, h2, aN (by simp; omega), aN (by simp; omega), aN (inr h1), aN (inr h1), aN (by simp; omega), aN (by simp; omega), aN (by simp; omega)]
 simp [yY]
theorem asm {w : aI} (h : WOK w) {A B : List aD} {f : aD} (e : w.Items = A ++ f :: B) : ((A ++ B).map (·.ID)).Nodup ∧ ∀ y ∈ A ++ B, y.ID ≠ f.ID := by
 have hn := h.nodup
 rw [e] at hn
 constructor
 ·refine List.Pairwise.sublist ?_ hn
  exact List.Sublist.map _ (List.Sublist.append (List.Sublist.refl _) (List.sublist_cons_self _ _))
 ·rw [List.map_append, List.map_cons, List.nodup_append, List.nodup_cons] at hn
  obtain ⟨_, ⟨h2, _⟩, h3⟩ := hn
  intro y hy
  rcases List.mem_append.1 hy with hy | hy
  ·exact h3 _ (List.mem_map_of_mem hy) _ (by simp)
  ·intro q
   exact h2 (by rw [← q]; exact List.mem_map_of_mem hy)
theorem aks {w : aI} (h : WOK w) {A B : List aD} {f : aD} (e : w.Items = A ++ f :: B) : WOK (uK w A f B) := by
 obtain ⟨n1, n2⟩ := asm h e
 have hl := h.len
 have hu := h.used
 have hB : A.length + (B.length + 1) = w.Items.length := by rw [e]; simp
 have hx : f.ID ∈ w.Pool.Used := h.mem f (by rw [e]; simp)
 have hlt := filter_lt hx
 obtain ⟨q1, q2, q3, q4⟩ := w7 h.pool
 have sub : ∀ y ∈ A ++ B, y ∈ w.Items := fun y hy => by
  rw [e]
  rcases List.mem_append.1 hy with hy | hy
  ·simp [hy]
  ·simp [hy]
 refine ⟨⟨h.g.1, ⟨by simp [uK]; omega, fun y hy => h.g.2.1.2 y (sub y hy)⟩, ⟨by show (List.filter _ _).length ≤ _; omega, fun y hy => h.g.2.2.1.2 y (List.mem_filter.1 hy).1⟩, h.g.2.2.2⟩, h.l0, h.l1, ?_, by simp [uK]; omega, by simp only [uK, List.length_append]; omega, ?_, n1, fun y hy => h.ok y (sub y hy)⟩
 ·unfold poolE ad2 uK
  simp only
  rw [aT (by simp; omega), afS q2, cH, aT (by simp; omega), aT (by simp; omega)]
 ·intro y hy
  exact List.mem_filter.2 ⟨h.mem y (sub y hy), by simpa using n2 y hy⟩
theorem ahN {f : aD} (h : flightE f = 0) : hX f.Message = 0 ∧ f.Message.Level ≠ 0 ∧ (f.State = 1 ∨ (f.State = 2 ∧ f.Message.Level ≠ 1)) := by
 have h0 := aeb h
 unfold flightE at h
 rw [aN (by simpa using h0)] at h
 have h1 : f.Message.Level ≠ 0 := by
  intro c
  rw [aN (by simpa using c)] at h; cases h
 rw [aT (by simpa using h1)] at h
 refine ⟨h0, h1, ?_⟩
 by_cases c : f.State = 1
 ·exact .inl c
 ·rw [aT (by simpa using c)] at h
  by_cases d : f.State = 2
  ·rw [aN (by simpa using d)] at h
   refine .inr ⟨d, fun q => ?_⟩
   rw [aN (by simpa using q)] at h; cases h
  ·rw [aT (by simpa using d)] at h; cases h
theorem asX {m : aA} (h : hX m = 0) : 0 ≤ m.Level ∧ m.Level ≤ 2 := by
 unfold hX at h
 have h := cz2 (cz1 h (by decide)) (by decide)
 rw [← abb]
 cases hr : dL 0 2 m.Level with
 | true => rfl
 | false => rw [hr] at h; cases h
theorem apC {w : aI} (h : WOK w) {A B : List aD} {f : aD} (e : w.Items = A ++ f :: B) (hv : f.Message.Level ≠ 1) : WOK (yY w A f B) := by
 have hn := h.nodup
 have hl := h.len
 have hu := h.used
 have hB : A.length + (B.length + 1) = w.Items.length := by rw [e]; simp
 have hf : f ∈ w.Items := by rw [e]; simp
 have gf := h.g.2.1.2 f hf
 obtain ⟨f1, f2, f3⟩ := ahN (h.ok f hf)
 have cases3 : ∀ {P : aD → Prop}, P (aD.mk f.ID 2 f.Message) → (∀ y ∈ w.Items, P y) → ∀ y ∈ A ++ aD.mk f.ID 2 f.Message :: B, P y := fun {P} p1 p2 y hy => by
  rcases List.mem_append.1 hy with hy | hy
  ·exact p2 y (by rw [e]; simp [hy])
  ·rcases List.mem_cons.1 hy with rfl | hy
   ·exact p1
   ·exact p2 y (by rw [e]; simp [hy])
 have hlen : (A ++ aD.mk f.ID 2 f.Message :: B).length = w.Items.length := by rw [← hB]; simp
 refine ⟨⟨h.g.1, ⟨by show (A ++ _ :: B).length ≤ _; omega, cases3 ⟨gf.1, abD (x := 2) (by decide) (by decide), gf.2.2⟩ h.g.2.1.2⟩, h.g.2.2⟩, h.l0, h.l1, h.pool, by show (A ++ _ :: B).length ≤ _; omega, by show w.Pool.Used.length ≤ (A ++ _ :: B).length; omega, cases3 (h.mem f hf) h.mem, ?_, cases3 ?_ h.ok⟩
 ·show ((A ++ aD.mk f.ID 2 f.Message :: B).map (·.ID)).Nodup
  rw [e] at hn
  simpa using hn
 ·unfold flightE
  rw [aN (by simpa using f1), aT (by simpa using f2), aT (by rfl), aN (by rfl), aT (by simpa using hv)]
theorem arh {w : aI} (h : WOK w) (p : aC) : ∃ r, sS w p = some r ∧ oJ w p = some r ∧ (r.2.2 = 0 → WOK r.1) ∧ (∀ q ∈ r.2.1, pOK q) ∧ r.2.1.length ≤ 1 := by
 have hl := h.len
 unfold sS oJ jE
 rw [find_eq _ _ (by omega), amH _ _ (by omega)]
 simp only [bB, dG]
 rcases amI p.ID w.Items 0 with ⟨e1, e2⟩ | ⟨A, f, B, e1, e2, e3⟩
 ·rw [e1]
  have d1 : decide ((-1 : Int) ≥ 0) = false := rfl
  have d2 : decide ((-1 : Int) < 0) = true := rfl
  unfold lB
  simp only [d1, d2, cH, dB, adJ h.lit, bB, ahD, abS]
  cases k4 : p.Kind == 4 with
  | true =>
   have : p.Kind = 4 := by simpa using k4
   have k5 : (p.Kind == 5) = false := by rw [this]; rfl
   rw [k5]
   exact ⟨(w, [], 0), rfl, rfl, fun _ => h, by simp, by simp⟩
  | false =>
   cases k5 : p.Kind == 5 with
   | true => exact ⟨(w, [yX p.ID], 0), rfl, rfl, fun _ => h, by intro q hq; rw [List.mem_singleton] at hq; rw [hq]; exact ahs _, by simp⟩
   | false =>
    cases k7 : p.Kind == 7 with
    | true => exact ⟨(w, [], 0), rfl, rfl, fun _ => h, by simp, by simp⟩
    | false => exact ⟨(ak6, [], 10), rfl, rfl, by simp, by simp, by simp⟩
 ·rw [e3]
  have hi := ajS e1
  have ht : (0 : Int) + (A.length : Int) = (A.length : Int) := by omega
  have d1 : decide ((A.length : Int) ≥ 0) = true := by simp
  have d2 : decide ((A.length : Int) < 0) = false := by simp
  have t1 : Int.toNat (A.length : Int) = A.length := by simp
  rw [ht, d1, d2]
  unfold lB kL
  have hr : decide ((A.length : Int) < (w.Items.length : Int)) = true := decide_eq_true (by have := hi.1; omega)
  have hr0 : decide (0 ≤ (A.length : Int)) = true := decide_eq_true (by omega)
  obtain ⟨m1, m2⟩ := ar1 h e1
  simp only [cH, dB, hr, hr0, Bool.and_self, t1, hi.2.1, d2, adJ h.lit, bB, ahD, abS, m1, m2, ao6 h e1, e2]
  obtain ⟨f1, f2, f3⟩ := ahN (h.ok f (by rw [e1]; simp))
  have lv := asX f1
  have hset : aI.mk w.Limit (w.Items.set A.length (aD.mk p.ID 2 f.Message)) w.Pool = yY w A f B := by
   rw [e1, List.set_append_right _ _ (Nat.le_refl _), ← e2]
   simp [yY]
  rw [hset]
  cases k4 : p.Kind == 4 with
  | true =>
   have : p.Kind = 4 := by simpa using k4
   have k5 : (p.Kind == 5) = false := by rw [this]; rfl
   have k7 : (p.Kind == 7) = false := by rw [this]; rfl
   rw [k5, k7]
   cases hv : f.Message.Level == 1 with
   | true => exact ⟨(uK w A f B, [], 0), rfl, rfl, fun _ => aks h e1, by simp, by simp⟩
   | false => exact ⟨(ak6, [], 23), rfl, rfl, by simp, by simp, by simp⟩
  | false =>
   cases k5 : p.Kind == 5 with
   | true =>
    have : p.Kind = 5 := by simpa using k5
    have k7 : (p.Kind == 7) = false := by rw [this]; rfl
    rw [k7]
    cases hv : f.Message.Level == 1 with
    | true =>
     have : (f.Message.Level == 2) = false := by
      have : f.Message.Level = 1 := by simpa using hv
      rw [this]; rfl
     rw [this]
     exact ⟨(ak6, [], 23), rfl, rfl, by simp, by simp, by simp⟩
    | false =>
     have h1 : f.Message.Level ≠ 1 := by simpa using hv
     have : (f.Message.Level == 2) = true := by simp; omega
     rw [this]
     exact ⟨(yY w A f B, [yX p.ID], 0), rfl, rfl, fun _ => apC h e1 h1, by intro q hq; rw [List.mem_singleton] at hq; rw [hq]; exact ahs _, by simp⟩
   | false =>
    cases k7 : p.Kind == 7 with
    | true =>
     rcases f3 with f3 | ⟨f3, f4⟩
     ·have s2 : (f.State == 2) = false := by rw [f3]; rfl
      have s1 : (f.State == 1) = true := by rw [f3]; rfl
      rw [s1, s2]
      refine ⟨(ak6, [], 23), rfl, ?_, by simp, by simp, by simp⟩
      cases f.Message.Level == 1 <;> rfl
     ·have s2 : (f.State == 2) = true := by rw [f3]; rfl
      have s1 : (f.State == 1) = false := by rw [f3]; rfl
      have hv : (f.Message.Level == 1) = false := by simpa using f4
      rw [s1, s2, hv]
      exact ⟨(uK w A f B, [], 0), rfl, rfl, fun _ => aks h e1, by simp, by simp⟩
    | false => exact ⟨(ak6, [], 10), rfl, rfl, by simp, by simp, by simp⟩
theorem aqp {s : aB} (h : SOK s) (p : aC) (now : Int) : ∃ r, nU s p now = some r ∧ oD s p now = some r ∧ jV r.1 ∧ (∀ q ∈ r.2.1, pOK q) ∧ r.2.1.length ≤ 1001 ∧ (r.2.2 = 0 → SOK r.1) := by
 obtain ⟨⟨w, ps, c⟩, e1, e2, r1, r2, r3⟩ := arh h.win p
 unfold nU oD
 rw [e1, e2, wM s h.abk]
 simp only [bB] at r1 r2 r3 ⊢
 by_cases hc : c = 0
 ·subst hc
  have hs := h.out (r1 rfl)
  obtain ⟨r, q1, q2, q3, q4, q5, q6, q7⟩ := alX (ani s w) now hs ps (by omega)
  have q3' : gY (aB.mk s.Client s.User s.Online s.Conn s.Expiry s.Until s.Dropped s.Subs s.Queue w s.In s.Will) now = some r := q3
  rw [q3']
  simp only [bne_self_eq_false, dB, bB]
  refine ⟨(r.1, ps ++ r.2, 0), ?_, ?_, q4.abk, ?_, by simp; omega, fun _ => q4⟩
  ·cases ho : s.Online with
   | false =>
    have := q7 ho
    rw [this]; simp [ani, ho]
   | true =>
    have q1' : mE (aB.mk s.Client s.User true s.Conn s.Expiry s.Until s.Dropped s.Subs s.Queue w s.In s.Will) now ps = some (r.1, ps ++ r.2) := by rw [← ho]; exact q1 ho
    simp only [Bool.not_true, dB]
    rw [q1']; rfl
  ·rw [aN (by simp; omega), aN (by simp; omega)]; simp
  ·intro q hq
   rcases List.mem_append.1 hq with hq | hq
   ·exact r2 q hq
   ·exact q5 q hq
 ·have : (c != 0) = true := by simpa using hc
  rw [this]
  exact ⟨(zO, [], c), rfl, rfl, aam, by simp, by simp, fun q => absurd q hc⟩
end Md
end PX
