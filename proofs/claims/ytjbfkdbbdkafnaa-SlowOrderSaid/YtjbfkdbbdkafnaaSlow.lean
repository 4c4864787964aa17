import Derived.Test.YtjbfkdbbdkafnaaMsg
set_option linter.unusedVariables false
set_option linter.unusedSimpArgs false
/- Queues of a slow consumer: what the models are. -/
set_option linter.unusedVariables false
set_option linter.unusedSimpArgs false
namespace PX
open Go
namespace Md

def okQ (q : List api_Message) : Prop := q.length ≤ 1000000 ∧ ∀ m ∈ q, okM m
theorem okQ_nil : okQ [] := ⟨by simp, by simp⟩
theorem okQ_take {q : List api_Message} (h : okQ q) (n : Nat) : okQ (q.take n) := ⟨by have := h.1; simp; omega, fun m hm => h.2 m (List.mem_of_mem_take hm)⟩
theorem okQ_drop {q : List api_Message} (h : okQ q) (n : Nat) : okQ (q.drop n) := ⟨by have := h.1; simp; omega, fun m hm => h.2 m (List.mem_of_mem_drop hm)⟩

theorem q_same_l (l : List api_Message) (hl : okQ l) : ∀ (k i fu : Nat), i + k = l.length → k < fu → brokerref17_Same_l4 fu l l (i : Int) = some true := by
  intro k
  have h1 := hl.1
  induction k with
  | zero =>
    intro i fu hi hf
    obtain ⟨fu, rfl⟩ : ∃ n, fu = n + 1 := ⟨fu - 1, by omega⟩
    rw [brokerref17_Same_l4, cond_f (lt_f (by omega))]
  | succ k ih =>
    intro i fu hi hf
    obtain ⟨fu, rfl⟩ : ∃ n, fu = n + 1 := ⟨fu - 1, by omega⟩
    have hm := hl.2 _ (List.getElem_mem (l := l) (n := i) (by omega))
    rw [brokerref17_Same_l4, cond_t (lt_t (by omega)), cond_t (inr (by omega)), cond_t (inr (by omega)), getD_nat (by omega), bind_of (same_msg _ (by unfold okM at hm; omega)), cond_f (by rfl), w64_succ (by omega)]
    exact ih (i + 1) fu (by omega) (by omega)
theorem q_same (l : List api_Message) (hl : okQ l) : brokerref17_Same l l = some true := by
  unfold brokerref17_Same
  rw [cond_f (by simp)]
  exact q_same_l l hl l.length 0 fuel (by omega) (by have := hl.1; rw [fuel_eq]; omega)
theorem q_differ {a b : List api_Message} (h : a.length ≠ b.length) : brokerref17_Same a b = some false := by
  unfold brokerref17_Same
  rw [cond_t (by simp <;> omega)]

theorem copied_eq {m : api_Message} (hm : okM m) : slow_copied m = some m := by
  unfold slow_copied
  unfold okM at hm
  rw [cond_t (by simp <;> omega)]
theorem clone_l (l : List api_Message) (hl : okQ l) : ∀ (k i fu : Nat), i + k = l.length → k < fu → slow_clone_l3 fu l (l.length : Int) (i : Int) (l.take i) = some l := by
  intro k
  have h1 := hl.1
  induction k with
  | zero =>
    intro i fu hi hf
    obtain ⟨fu, rfl⟩ : ∃ n, fu = n + 1 := ⟨fu - 1, by omega⟩
    rw [slow_clone_l3, cond_f (lt_f (by omega)), List.take_of_length_le (by omega)]
  | succ k ih =>
    intro i fu hi hf
    obtain ⟨fu, rfl⟩ : ∃ n, fu = n + 1 := ⟨fu - 1, by omega⟩
    rw [slow_clone_l3, cond_t (lt_t (by omega)), cond_t (inr (by omega)), getD_nat (by omega), bind_of (copied_eq (hl.2 _ (List.getElem_mem _))), cond_t (by simp <;> omega), w64_succ (by omega), take_snoc]
    exact ih (i + 1) fu (by omega) (by omega)
theorem clone_eq (l : List api_Message) (hl : okQ l) {n : Int} (h0 : 0 ≤ n) (h1 : n ≤ 1000) : slow_clone l n = some l := by
  have h2 := hl.1
  unfold slow_clone
  rw [w64 (by omega) (by omega), cond_t (by simp <;> omega)]
  exact clone_l l hl l.length 0 fuel (by omega) (by rw [fuel_eq]; omega)

theorem shift {α : Type} (q : List α) (h : 0 < q.length) :
    List.take q.length (List.take (q.length - Int.toNat 1) (List.drop (Int.toNat 1) q)) ++ List.drop (min (List.take (q.length - Int.toNat 1) (List.drop (Int.toNat 1) q)).length q.length) q = q.tail ++ [q[q.length - 1]] := by
  have e : Int.toNat 1 = 1 := rfl
  rw [e, List.drop_one, List.take_of_length_le (l := q.tail) (by simp), List.take_of_length_le (by simp)]
  congr 1
  rw [List.length_tail, Nat.min_eq_left (by omega), List.drop_eq_getElem_cons (by omega), List.drop_eq_nil_of_le (by omega)]
def pushed (q : List api_Message) (m : api_Message) (max pol : Int) : List api_Message × List api_Message × Bool :=
  if (q.length : Int) < max then (q ++ [m], [], false)
  else if pol ≠ 1 ∨ max < 1 then (q, [m], pol == 3)
  else (q.tail ++ [m], [q.headD default], false)
theorem push_eq {q : List api_Message} (hq : okQ q) {m : api_Message} (hm : okM m) {max pol : Int} : slow_Push q m max pol = some (pushed q m max pol) := by
  have h1 := hq.1
  unfold slow_Push pushed
  rw [bind_of (clone_eq q hq (by omega) (by omega))]
  by_cases c1 : (q.length : Int) < max
  · rw [if_pos c1, cond_t (by simpa using c1), bind_of (copied_eq hm), cond_t (by simp <;> omega)]
  · rw [if_neg c1, cond_f (by simpa using c1)]
    by_cases c2 : pol = 1
    · rw [cond_f (by simp [c2])]
      by_cases c3 : max < 1
      · rw [if_pos (Or.inr c3), cond_t (by simpa using c3), bind_of (copied_eq hm)]
      · have hl : 0 < q.length := by omega
        rw [if_neg (by omega), cond_f (by simpa using c3)]
        unfold slow_Push_j6
        simp only [shift q hl]
        rw [cond_t (by simp <;> omega), cond_t (by simp <;> omega), bind_of (copied_eq hm), w64 (by simp <;> omega) (by simp <;> omega), cond_t (by simp <;> omega)]
        congr 1
        refine Prod.ext ?_ (Prod.ext ?_ rfl)
        · have e : Int.toNat (((q.tail ++ [q[q.length - 1]]).length : Int) - 1) = q.tail.length := by simp
          rw [e, List.set_append_right _ _ (Nat.le_refl _)]
          simp
        · cases q with
          | nil => simp at hl
          | cons x q => rfl
    · rw [if_pos (Or.inl c2), cond_t (by simpa using c2), bind_of (copied_eq hm)]
theorem ref_push_eq {q : List api_Message} (hq : okQ q) {m : api_Message} {max pol : Int} : brokerref17_Push q m max pol = some (pushed q m max pol) := by
  have h1 := hq.1
  unfold brokerref17_Push pushed
  by_cases c1 : (q.length : Int) < max
  · rw [if_pos c1, cond_t (by simpa using c1), cond_t (by simp <;> omega), cond_t (by simp <;> omega)]
    simp
  · rw [if_neg c1, cond_f (by simpa using c1)]
    by_cases c2 : pol = 1
    · rw [cond_t (by simp [c2])]
      by_cases c3 : max < 1
      · rw [if_pos (Or.inr c3), cond_f (by simp <;> omega)]; rfl
      · have hl : 0 < q.length := by omega
        have e1 : cutL q (some 1) none = q.tail := by simp [cutL]
        rw [if_neg (by omega), cond_t (by simp <;> omega), cond_t (by simp <;> omega), e1, cond_t (by simp <;> omega), cond_t (by simp <;> omega), cond_t (by simp <;> omega)]
        congr 1
        refine Prod.ext (by simp) (Prod.ext ?_ rfl)
        cases q with
        | nil => simp at hl
        | cons x q => rfl
    · rw [if_pos (Or.inl c2), cond_f (by simpa using c2)]; rfl
theorem pushed_ok {q : List api_Message} (hq : okQ q) (hl : q.length ≤ 900000) {m : api_Message} (hm : okM m) {max pol : Int} : okQ (pushed q m max pol).1 ∧ okQ (pushed q m max pol).2.1 := by
  have h1 := hq.1
  unfold pushed
  split
  · exact ⟨⟨by simp; omega, by intro x hx; simp at hx; rcases hx with hx | rfl; exact hq.2 x hx; exact hm⟩, okQ_nil⟩
  · split
    · exact ⟨hq, ⟨by simp, by simpa using hm⟩⟩
    · refine ⟨⟨by simp; omega, by intro x hx; simp at hx; rcases hx with hx | rfl; exact hq.2 x (List.mem_of_mem_tail hx); exact hm⟩, ⟨by simp, ?_⟩⟩
      cases q with
      | nil => simp [okM]; exact (by decide : (default : api_Message).Props.length * 32 ≤ 140737488351232)
      | cons x q => simpa using hq.2 x List.mem_cons_self
def live (now : Int) (m : api_Message) : Bool := !(m.Expires != 0 && decide (now ≥ m.Expires))
theorem expired_eq (m : api_Message) (now : Int) : message_Expired m now = some (!(live now m)) := by
  unfold message_Expired live
  cases h : m.Expires != 0 <;> simp
theorem ref_expired_eq (m : api_Message) (now : Int) : brokerref05_Expired m now = some (!(live now m)) := expired_eq m now
/-- Where the first live message is. -/
def firstLive (now : Int) : List api_Message → Option Nat
  | [] => none
  | m :: r => if live now m then some 0 else (firstLive now r).map (· + 1)
def popped (q : List api_Message) (now : Int) : api_Message × Bool × List api_Message × List api_Message :=
  match firstLive now q with
  | some i => (q.getD i default, true, q.drop (i + 1), q.take i)
  | none => (default, false, [], q)
theorem firstLive_lt {now : Int} : ∀ {q : List api_Message} {i : Nat}, firstLive now q = some i → i < q.length
  | [], i, h => by simp [firstLive] at h
  | m :: r, i, h => by
    rw [firstLive] at h
    split at h
    · cases h; simp
    · obtain ⟨j, hj, rfl⟩ := Option.map_eq_some_iff.1 h
      have := firstLive_lt hj
      simp; omega
theorem firstLive_drop {now : Int} {q : List api_Message} {i : Nat} (hi : i < q.length) : firstLive now (q.drop i) = if live now q[i] then some 0 else (firstLive now (q.drop (i + 1))).map (· + 1) := by
  rw [List.drop_eq_getElem_cons hi, firstLive]
theorem pop_l (q : List api_Message) (hq : okQ q) (now : Int) (b0 : api_Message) : ∀ (k i fu : Nat), i + k = q.length → k < fu →
    slow_Pop_l3 fu now (q.length : Int) (i : Int) b0 q = some (match firstLive now (q.drop i) with | some j => (q.getD (i + j) default, true, q.drop (i + j + 1), q.take (i + j)) | none => (default, false, [], q)) := by
  intro k
  have h1 := hq.1
  induction k with
  | zero =>
    intro i fu hi hf
    obtain ⟨fu, rfl⟩ : ∃ n, fu = n + 1 := ⟨fu - 1, by omega⟩
    rw [slow_Pop_l3, cond_f (lt_f (by omega)), List.drop_eq_nil_of_le (by omega)]; rfl
  | succ k ih =>
    intro i fu hi hf
    obtain ⟨fu, rfl⟩ : ∃ n, fu = n + 1 := ⟨fu - 1, by omega⟩
    have hi' : i < q.length := by omega
    rw [slow_Pop_l3, cond_t (lt_t hi'), cond_t (inr hi'), getD_nat hi', bind_of (expired_eq _ _), w64_succ (by omega), firstLive_drop hi']
    cases hv : live now q[i]
    · rw [cond_f (by rfl), ih (i + 1) fu (by omega) (by omega)]
      simp only [Bool.false_eq_true, if_false]
      cases firstLive now (List.drop (i + 1) q) with
      | none => rfl
      | some j =>
        simp only [Option.map_some]
        rw [show i + 1 + j = i + (j + 1) by omega]
    · rw [cond_t (by rfl), cond_t (by simp <;> omega), cond_t (by simp <;> omega), cond_t (by simp)]
      simp only [if_true, Nat.add_zero, Int.toNat_natCast, Nat.sub_zero, List.drop_zero]
      rw [List.take_of_length_le (by simp), getD_at hi']
theorem pop_eq (q : List api_Message) (hq : okQ q) (now : Int) : slow_Pop q now = some (popped q now) := by
  unfold slow_Pop popped
  rw [bind_of (clone_eq q hq (by omega) (by omega))]
  have := pop_l q hq now ((api_Message.mk ([] : Str) ([] : Str) 0 false 0 0 ([] : Str) 0 ([] : List api_Prop))) q.length 0 fuel (by omega) (by have := hq.1; rw [fuel_eq]; omega)
  simp only [List.drop_zero, Nat.zero_add] at this
  exact this
theorem ref_pop_l (q : List api_Message) (hq : okQ q) (now : Int) (b0 : api_Message) : ∀ (k i fu : Nat), i + k = q.length → k < fu →
    brokerref17_Pop_l2 fu q now (i : Int) b0 = some (match firstLive now (q.drop i) with | some j => (q.getD (i + j) default, true, q.drop (i + j + 1), q.take (i + j)) | none => (default, false, [], q)) := by
  intro k
  have h1 := hq.1
  induction k with
  | zero =>
    intro i fu hi hf
    obtain ⟨fu, rfl⟩ : ∃ n, fu = n + 1 := ⟨fu - 1, by omega⟩
    rw [brokerref17_Pop_l2, cond_f (lt_f (by omega)), List.drop_eq_nil_of_le (by omega)]; rfl
  | succ k ih =>
    intro i fu hi hf
    obtain ⟨fu, rfl⟩ : ∃ n, fu = n + 1 := ⟨fu - 1, by omega⟩
    have hi' : i < q.length := by omega
    rw [brokerref17_Pop_l2, cond_t (lt_t hi'), cond_t (inr hi'), getD_nat hi', bind_of (ref_expired_eq _ _), w64_succ (by omega), firstLive_drop hi']
    cases hv : live now q[i]
    · rw [cond_f (by rfl), ih (i + 1) fu (by omega) (by omega)]
      simp only [Bool.false_eq_true, if_false]
      cases firstLive now (List.drop (i + 1) q) with
      | none => rfl
      | some j =>
        simp only [Option.map_some]
        rw [show i + 1 + j = i + (j + 1) by omega]
    · rw [cond_t (by rfl), cond_t (by simp <;> omega), cond_t (by simp <;> omega), cond_t (by simp <;> omega)]
      simp only [if_true, Nat.add_zero, cutL, Int.toNat_natCast]
      rw [getD_at hi']
theorem ref_pop_eq (q : List api_Message) (hq : okQ q) (now : Int) : brokerref17_Pop q now = some (popped q now) := by
  unfold brokerref17_Pop popped
  have := ref_pop_l q hq now ((api_Message.mk ([] : Str) ([] : Str) 0 false 0 0 ([] : Str) 0 ([] : List api_Prop))) q.length 0 fuel (by omega) (by have := hq.1; rw [fuel_eq]; omega)
  simp only [List.drop_zero, Nat.zero_add] at this
  exact this
end Md
end PX
