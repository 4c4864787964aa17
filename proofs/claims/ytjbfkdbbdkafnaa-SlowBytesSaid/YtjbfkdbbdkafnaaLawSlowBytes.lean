import Derived.Test.YtjbfkdbbdkafnaaSlowAwake
set_option linter.unusedVariables false
set_option linter.unusedSimpArgs false
namespace PX
open Go
namespace Md
def sumP (q : List api_Message) : Int := (q.map fun m => (m.Payload.length : Int)).sum
theorem wrap_add (a b : Int) : IntKind.wrap .i64 (IntKind.wrap .i64 a + b) = IntKind.wrap .i64 (a + b) := by
  simp only [IntKind.wrap, IntKind.bits, IntKind.signed]; simp; omega
theorem wrap_add2 (a b : Int) : IntKind.wrap .i64 (IntKind.wrap .i64 a + IntKind.wrap .i64 b) = IntKind.wrap .i64 (a + b) := by
  simp only [IntKind.wrap, IntKind.bits, IntKind.signed]; simp; omega
theorem sum_drop {q : List api_Message} {i : Nat} (hi : i < q.length) : sumP (q.drop i) = (q[i].Payload.length : Int) + sumP (q.drop (i + 1)) := by
  unfold sumP
  rw [List.drop_eq_getElem_cons hi, List.map_cons, List.sum_cons]
theorem bytes_l (q : List api_Message) (hq : q.length ≤ 1000000) : ∀ (k i fu : Nat) (a : Int), i + k = q.length → k < fu → slow_Bytes_l3 fu (IntKind.wrap .i64 a) q (q.length : Int) (i : Int) = some (IntKind.wrap .i64 (a + sumP (q.drop i))) := by
  intro k
  induction k with
  | zero =>
    intro i fu a hi hf
    obtain ⟨fu, rfl⟩ : ∃ n, fu = n + 1 := ⟨fu - 1, by omega⟩
    rw [slow_Bytes_l3, cond_f (lt_f (by omega)), List.drop_eq_nil_of_le (by omega)]
    simp [sumP]
  | succ k ih =>
    intro i fu a hi hf
    obtain ⟨fu, rfl⟩ : ∃ n, fu = n + 1 := ⟨fu - 1, by omega⟩
    have hi' : i < q.length := by omega
    rw [slow_Bytes_l3, cond_t (lt_t hi'), cond_t (inr hi'), getD_nat hi', w64_succ (by omega), wrap_add, ih (i + 1) fu _ (by omega) (by omega), sum_drop hi', Int.add_assoc]
theorem ref_bytes_l (q : List api_Message) (hq : q.length ≤ 1000000) : ∀ (k i fu : Nat) (a : Int), i + k = q.length → k < fu → brokerref17_Bytes_l3 fu q (IntKind.wrap .i64 a) (i : Int) = some (IntKind.wrap .i64 (a + sumP (q.drop i))) := by
  intro k
  induction k with
  | zero =>
    intro i fu a hi hf
    obtain ⟨fu, rfl⟩ : ∃ n, fu = n + 1 := ⟨fu - 1, by omega⟩
    rw [brokerref17_Bytes_l3, cond_f (lt_f (by omega)), List.drop_eq_nil_of_le (by omega)]
    simp [sumP]
  | succ k ih =>
    intro i fu a hi hf
    obtain ⟨fu, rfl⟩ : ∃ n, fu = n + 1 := ⟨fu - 1, by omega⟩
    have hi' : i < q.length := by omega
    rw [brokerref17_Bytes_l3, cond_t (lt_t hi'), cond_t (inr hi'), getD_nat hi', w64_succ (by omega), wrap_add, ih (i + 1) fu _ (by omega) (by omega), sum_drop hi', Int.add_assoc]
theorem bytes_eq (q : List api_Message) (hq : q.length ≤ 1000000) : slow_Bytes q = some (IntKind.wrap .i64 (sumP q)) := by
  have := bytes_l q hq q.length 0 fuel 0 (by omega) (by rw [fuel_eq]; omega)
  simp only [List.drop_zero, Int.zero_add] at this
  exact this
theorem ref_bytes_eq (q : List api_Message) (hq : q.length ≤ 1000000) : brokerref17_Bytes q = some (IntKind.wrap .i64 (sumP q)) := by
  have := ref_bytes_l q hq q.length 0 fuel 0 (by omega) (by rw [fuel_eq]; omega)
  simp only [List.drop_zero, Int.zero_add] at this
  exact this
theorem brokerlaw17_SlowBytes_law (p0 : (List api_Message)) (p1 : (List api_Message)) (g0 : D.okL [.sl api_Message.ks] ([D.sl api_Message.ks (List.map api_Message.enc p0)])) (g1 : D.okL [.sl api_Message.ks] ([D.sl api_Message.ks (List.map api_Message.enc p1)])) : brokerlaw17_SlowBytes p0 p1 = some true := by
  unfold brokerlaw17_SlowBytes
  rw [bind_of (few_eq p0)]
  by_cases hf : p0.length ≤ 300
  · rw [cond_f (by simpa using hf), bind_of (few_eq p1)]
    by_cases hf1 : p1.length ≤ 300
    · rw [cond_f (by simpa using hf1)]
      unfold brokerlaw17_SlowBytes_j3
      rw [cond_t (by simp <;> omega), cond_t (by simp <;> omega), bind_of slow_awake, cond_t (by rfl), bind_of (bytes_eq p0 (by omega)), bind_of (ref_bytes_eq p0 (by omega)), cond_t (by simp),
        bind_of (bytes_eq _ (by simp <;> omega)), bind_of (bytes_eq p0 (by omega)), bind_of (bytes_eq p1 (by omega)), wrap_add2]
      have e : sumP (([] : List api_Message) ++ p0 ++ p1) = sumP p0 + sumP p1 := by simp [sumP]
      rw [e]; simp
    · rw [cond_t (by simpa using hf1), bind_of slow_awake]
  · rw [cond_t (by simpa using hf), bind_of slow_awake]
end Md
end PX
