import Derived.Test.YtjbfkdbbdkafnaaSlowAwake
set_option linter.unusedVariables false
set_option linter.unusedSimpArgs false
namespace PX
open Go
namespace Md
theorem expire_l (q : List api_Message) (hq : okQ q) (now : Int) : ∀ (k i fu : Nat) (a b : List api_Message), i + k = q.length → k < fu → a.length ≤ i → b.length ≤ i →
    slow_Expire_l3 fu now q (q.length : Int) (i : Int) a b = some (a ++ (q.drop i).filter (live now), b ++ (q.drop i).filter (fun m => !(live now m))) := by
  intro k
  have h1 := hq.1
  induction k with
  | zero =>
    intro i fu a b hi hf ha hb
    obtain ⟨fu, rfl⟩ : ∃ n, fu = n + 1 := ⟨fu - 1, by omega⟩
    rw [slow_Expire_l3, cond_f (lt_f (by omega)), List.drop_eq_nil_of_le (by omega)]; simp
  | succ k ih =>
    intro i fu a b hi hf ha hb
    obtain ⟨fu, rfl⟩ : ∃ n, fu = n + 1 := ⟨fu - 1, by omega⟩
    have hi' : i < q.length := by omega
    rw [slow_Expire_l3, cond_t (lt_t hi'), cond_t (inr hi'), getD_nat hi', bind_of (expired_eq _ _), w64_succ (by omega), List.drop_eq_getElem_cons hi', List.filter_cons, List.filter_cons]
    have hm := copied_eq (hq.2 _ (List.getElem_mem hi'))
    cases hv : live now q[i]
    · rw [cond_t (by rfl), bind_of hm, cond_t (by simp <;> omega), ih (i + 1) fu a (b ++ [q[i]]) (by omega) (by omega) (by omega) (by simp <;> omega)]
      simp
    · rw [cond_f (by rfl), bind_of hm, cond_t (by simp <;> omega), ih (i + 1) fu (a ++ [q[i]]) b (by omega) (by omega) (by simp <;> omega) (by omega)]
      simp
theorem ref_expire_l (q : List api_Message) (hq : okQ q) (now : Int) : ∀ (k i fu : Nat) (a b : List api_Message), i + k = q.length → k < fu → a.length ≤ i → b.length ≤ i →
    brokerref17_Expire_l3 fu q now (i : Int) a b = some (a ++ (q.drop i).filter (live now), b ++ (q.drop i).filter (fun m => !(live now m))) := by
  intro k
  have h1 := hq.1
  induction k with
  | zero =>
    intro i fu a b hi hf ha hb
    obtain ⟨fu, rfl⟩ : ∃ n, fu = n + 1 := ⟨fu - 1, by omega⟩
    rw [brokerref17_Expire_l3, cond_f (lt_f (by omega)), List.drop_eq_nil_of_le (by omega)]; simp
  | succ k ih =>
    intro i fu a b hi hf ha hb
    obtain ⟨fu, rfl⟩ : ∃ n, fu = n + 1 := ⟨fu - 1, by omega⟩
    have hi' : i < q.length := by omega
    rw [brokerref17_Expire_l3, cond_t (lt_t hi'), cond_t (inr hi'), getD_nat hi', bind_of (ref_expired_eq _ _), w64_succ (by omega), List.drop_eq_getElem_cons hi', List.filter_cons, List.filter_cons]
    cases hv : live now q[i]
    · rw [cond_t (by rfl), cond_t (inr hi'), cond_t (by simp <;> omega), ih (i + 1) fu a (b ++ [q[i]]) (by omega) (by omega) (by omega) (by simp <;> omega)]
      simp
    · rw [cond_f (by rfl), cond_t (inr hi'), cond_t (by simp <;> omega), ih (i + 1) fu (a ++ [q[i]]) b (by omega) (by omega) (by simp <;> omega) (by omega)]
      simp
theorem okQ_filter {q : List api_Message} (h : okQ q) (f : api_Message → Bool) : okQ (q.filter f) := ⟨by have := List.length_filter_le f q; have := h.1; omega, fun m hm => h.2 m (List.mem_filter.1 hm).1⟩
theorem expire_eq (p0 : List api_Message) (hq : okQ p0) (p1 : Int) : slow_Expire p0 p1 = some (p0.filter (live p1), p0.filter (fun m => !(live p1 m))) := by
  have e1 := expire_l p0 hq p1 p0.length 0 fuel [] [] (by omega) (by have := hq.1; rw [fuel_eq]; omega) (by simp) (by simp)
  simp only [List.drop_zero, List.nil_append] at e1
  exact e1
theorem ref_expire_eq (p0 : List api_Message) (hq : okQ p0) (p1 : Int) : brokerref17_Expire p0 p1 = some (p0.filter (live p1), p0.filter (fun m => !(live p1 m))) := by
  have e1 := ref_expire_l p0 hq p1 p0.length 0 fuel [] [] (by omega) (by have := hq.1; rw [fuel_eq]; omega) (by simp) (by simp)
  simp only [List.drop_zero, List.nil_append] at e1
  exact e1
theorem brokerlaw17_SlowExpires_law (p0 : (List api_Message)) (p1 : Int) (g0 : D.okL [.sl api_Message.ks] ([D.sl api_Message.ks (List.map api_Message.enc p0)])) (g1 : D.okL [.int .i64] ([D.int .i64 p1])) : brokerlaw17_SlowExpires p0 p1 = some true := by
  unfold brokerlaw17_SlowExpires
  rw [bind_of (few_eq p0)]
  by_cases hf : p0.length ≤ 300
  · have hq : okQ p0 := okQ_of hf g0
    rw [cond_f (by simpa using hf), bind_of (expire_eq p0 hq p1), bind_of (ref_expire_eq p0 hq p1), bind_of slow_awake, cond_t (by rfl), bind_of (q_same _ (okQ_filter hq _)), cond_t (by rfl), bind_of (q_same _ (okQ_filter hq _))]
  · rw [cond_t (by simpa using hf), bind_of slow_awake]
end Md
end PX
