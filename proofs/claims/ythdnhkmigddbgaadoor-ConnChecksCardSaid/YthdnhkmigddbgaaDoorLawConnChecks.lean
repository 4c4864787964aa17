import Derived.Test.YthdnhkmigddbgaaDoorConnA
set_option linter.unusedVariables false
set_option linter.unusedSimpArgs false
set_option linter.unusedVariables false
set_option linter.unusedSimpArgs false
namespace PX
open Go
namespace Md
theorem brokerlaw49_ConnChecks_law (p0 : api_Conn) (p1 : Int) (p2 : Int) (g0 : D.okL api_Conn.ks (api_Conn.enc p0)) (g1 : D.okL [.int .i64] ([D.int .i64 p1])) (g2 : D.okL [.int .i64] ([D.int .i64 p2])) : brokerlaw49_ConnChecks p0 p1 p2 = some true := by
  have h := api_Conn.good_of g0
  unfold brokerlaw49_ConnChecks conn_Close brokerref49_Close conn_New brokerref49_New
  simp only [awake49, conn_Check_eq _ h, ref_CCheck_eq _ h, cn_bind, beq_self_eq_true, cn_t, cn_aT, Bool.and_self]
end Md
end PX
