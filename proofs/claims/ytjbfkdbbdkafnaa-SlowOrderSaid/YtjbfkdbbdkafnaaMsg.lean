import Derived.Test.YtjbfkdbbdkafnaaMod
import Derived.Test.YtjbfkdbbdkafnaaPXc
set_option linter.unusedVariables false
set_option linter.unusedSimpArgs false
/- Messages: what the models of small functions are. -/
set_option linter.unusedVariables false
set_option linter.unusedSimpArgs false
namespace PX
open Go
namespace Md

/-- Its list of properties fits. -/
def okM (m : api_Message) : Prop := m.Props.length * 32 ≤ 140737488351232
theorem okM_of {m : api_Message} (h : D.okL api_Message.ks (api_Message.enc m)) : okM m := by
  simp only [api_Message.ks, api_Message.enc, D.okL, D.ok, List.length_map] at h
  have := h.2.2.2.2.2.2.2.2.1.2.1
  simpa [okM, wtL, CK.wt, api_Prop.ks, reachB] using this
theorem okM_each {q : List api_Message} (h : D.okL [.sl api_Message.ks] ([D.sl api_Message.ks (List.map api_Message.enc q)])) : ∀ m ∈ q, okM m := by
  intro m hm
  simp only [D.okL, D.ok] at h
  exact okM_of (h.1.2.2 _ (List.mem_map_of_mem hm))
theorem props_len (m : api_Message) : m.Props.length ≤ bulkL (api_Message.enc m) := by
  have := bulk_len (f := api_Prop.enc) (fun a => bulkL_pos) m.Props
  simp only [api_Message.enc, bulkL, D.bulk]; omega

theorem same_props_l (l : List api_Prop) : ∀ (k i fu : Nat), i + k = l.length → k < fu → l.length < 1000000000000000 → brokerref05_SameProps_l4 fu l l (i : Int) = some true := by
  intro k
  induction k with
  | zero =>
    intro i fu hi hf hl
    obtain ⟨fu, rfl⟩ : ∃ n, fu = n + 1 := ⟨fu - 1, by omega⟩
    rw [brokerref05_SameProps_l4, cond_f (lt_f (by omega))]
  | succ k ih =>
    intro i fu hi hf hl
    obtain ⟨fu, rfl⟩ : ∃ n, fu = n + 1 := ⟨fu - 1, by omega⟩
    rw [brokerref05_SameProps_l4, cond_t (lt_t (by omega)), cond_t (inr (by omega)), cond_t (inr (by omega)), cond_f (by simp), w64_succ (by omega)]
    exact ih (i + 1) fu (by omega) (by omega) hl
theorem same_props (l : List api_Prop) (hl : l.length < 1000000000000000) : brokerref05_SameProps l l = some true := by
  unfold brokerref05_SameProps
  rw [cond_f (by simp)]
  exact same_props_l l l.length 0 fuel (by omega) (by rw [fuel_eq]; omega) hl
theorem same_msg (m : api_Message) (hm : m.Props.length < 1000000000000000) : brokerref05_Same m m = some true := by
  unfold brokerref05_Same
  simp [same_props m.Props hm]
end Md
end PX
