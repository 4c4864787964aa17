import Derived.Test.YtjbfkdbbdkafnaaSlowAwake
set_option linter.unusedVariables false
set_option linter.unusedSimpArgs false
namespace PX
open Go
namespace Md
theorem popped_ok {q : List api_Message} (hq : okQ q) (now : Int) : okM (popped q now).1 ∧ okQ (popped q now).2.2.1 ∧ okQ (popped q now).2.2.2 := by
  unfold popped
  split
  · rename_i i h
    have := firstLive_lt h
    refine ⟨?_, okQ_drop hq _, okQ_take hq _⟩
    rw [getD_at this]
    exact hq.2 _ (List.getElem_mem _)
  · exact ⟨by simp only [okM]; exact (by decide : (default : api_Message).Props.length * 32 ≤ 140737488351232), okQ_nil, hq⟩
theorem popped_parts {q : List api_Message} (now : Int) : (cond (popped q now).2.1 ((popped q now).2.2.2 ++ [(popped q now).1]) (popped q now).2.2.2) ++ (popped q now).2.2.1 = q := by
  unfold popped
  split
  · rename_i i h
    have := firstLive_lt h
    simp only [cond_true]
    rw [getD_at this, take_snoc this, List.take_append_drop]
  · simp
theorem brokerlaw17_SlowPops_law (p0 : (List api_Message)) (p1 : Int) (g0 : D.okL [.sl api_Message.ks] ([D.sl api_Message.ks (List.map api_Message.enc p0)])) (g1 : D.okL [.int .i64] ([D.int .i64 p1])) : brokerlaw17_SlowPops p0 p1 = some true := by
  unfold brokerlaw17_SlowPops
  rw [bind_of (few_eq p0)]
  by_cases hf : p0.length ≤ 300
  · have hq : okQ p0 := okQ_of hf g0
    obtain ⟨h1, h2, h3⟩ := popped_ok hq p1
    have hpp := popped_parts (q := p0) p1
    have hj : ∀ l, l ++ (popped p0 p1).2.2.1 = p0 → brokerlaw17_SlowPops_j10 p0 (popped p0 p1).2.2.1 l = some true := by
      intro l hl
      have hl2 : l.length + (popped p0 p1).2.2.1.length = p0.length := by rw [← List.length_append, hl]
      unfold brokerlaw17_SlowPops_j10
      rw [bind_of slow_awake, cond_t (by rfl), cond_t (by simp <;> omega), hl, bind_of (q_same _ hq)]
    rw [cond_f (by simpa using hf), bind_of (pop_eq p0 hq p1), bind_of (ref_pop_eq p0 hq p1), bind_of (same_msg _ (by unfold okM at h1; omega)), cond_f (by rfl), cond_f (by simp), bind_of (q_same _ h2), cond_f (by rfl), bind_of (q_same _ h3), cond_f (by rfl)]
    have hl3 := h3.1
    unfold brokerlaw17_SlowPops_j7
    rw [cond_t (by simp <;> omega)]
    cases hv : (popped p0 p1).2.1
    · rw [hv] at hpp
      rw [cond_f (by rfl)]
      exact hj _ (by simpa using hpp)
    · rw [hv] at hpp
      rw [cond_t (by rfl), cond_t (by simp <;> omega)]
      exact hj _ (by simpa using hpp)
  · rw [cond_t (by simpa using hf), bind_of slow_awake]
end Md
end PX
