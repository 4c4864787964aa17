import Derived.Test.YthdnhkmigddbgaaDoorConnA
set_option linter.unusedVariables false
set_option linter.unusedSimpArgs false
set_option linter.unusedVariables false
set_option linter.unusedSimpArgs false
namespace PX
open Go
namespace Md
theorem checkC_parts {c : api_Conn} (h : checkC c = 0) : rngB 0 1099511627776 c.ID = true ∧ rngB 0 1099511627776 c.Keep = true := by
  unfold checkC at h
  cases h1 : rngB 0 1099511627776 c.ID
  · rw [h1] at h; cases h
  · rw [h1, cn_t] at h
    cases h2 : (c.State == 0 || (c.State == 1 || c.State == 2))
    · rw [h2] at h; cases h
    · rw [h2, cn_t] at h
      cases h3 : rngB 0 1099511627776 c.Keep
      · rw [h3] at h; cases h
      · exact ⟨rfl, rfl⟩
theorem brokerlaw49_ConnExpires_law (p0 : api_Conn) (p1 : Int) (g0 : D.okL api_Conn.ks (api_Conn.enc p0)) (g1 : D.okL [.int .i64] ([D.int .i64 p1])) : brokerlaw49_ConnExpires p0 p1 = some true := by
  have h := api_Conn.good_of g0
  unfold brokerlaw49_ConnExpires brokerlaw49_ConnExpires_j3 conn_Expired brokerref49_Expired
  simp only [awake49, ref_CCheck_eq _ h, cn_bind, cn_bne, cn_t, cn_gt, rng_cond]
  by_cases h0 : checkC p0 = 0
  · have hk := (checkC_parts h0).2
    rw [rng_true] at hk
    rw [h0, cond_t (by rfl)]
    cases rngB 0 1099511627776 p1
    · rfl
    rw [cn_t]
    by_cases hz : p0.Keep = 0
    · rw [hz]
      cases p0.State == 0 <;> cases p0.State == 1 <;> simp
    · have e1 : (p0.Keep == 0) = false := by simpa using hz
      have e2 : decide (0 < p0.Keep) = true := by simp; omega
      rw [e1, e2]
      cases p0.State == 0 <;> cases p0.State == 1 <;> simp
  · rw [cond_f (by simpa using h0)]
end Md
end PX
