import Derived.Test.YthdnhkmigddbgaaDoorConnA
set_option linter.unusedVariables false
set_option linter.unusedSimpArgs false
set_option linter.unusedVariables false
set_option linter.unusedSimpArgs false
namespace PX
open Go
namespace Md
theorem brokerlaw49_ConnReceives_law (p0 : api_Conn) (p1 : api_Packet) (p2 : Int) (g0 : D.okL api_Conn.ks (api_Conn.enc p0)) (g1 : D.okL api_Packet.ks (api_Packet.enc p1)) (g2 : D.okL [.int .i64] ([D.int .i64 p2])) : brokerlaw49_ConnReceives p0 p1 p2 = some true := by
  have h := api_Packet.good_of g1
  obtain ⟨b, hb, _⟩ := light_parts [p1] ⟨by simp, fun x hx => by obtain rfl := List.mem_singleton.1 hx; exact h⟩
  unfold brokerlaw49_ConnReceives
  simp only [hb, awake49, receive_eq _ _ _ h, ref_receive_eq _ _ _ h, cn_bind, beq_self_eq_true, cn_t, cn_aT, Bool.and_self]
  cases b <;> rfl
end Md
end PX
