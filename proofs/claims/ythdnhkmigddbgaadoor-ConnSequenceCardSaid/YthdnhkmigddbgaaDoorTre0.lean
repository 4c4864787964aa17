import Derived.Test.YthdnhkmigddbgaaDoorTab
set_option linter.unusedVariables false
set_option linter.unusedSimpArgs false
set_option linter.unusedVariables false
set_option linter.unusedSimpArgs false
set_option maxRecDepth 100000
noncomputable section
namespace PX
open Go
open Md
namespace Te
def C12 (Γ : Fun)  : CFun := bindC Γ
theorem T12 (Γ : Fun)  (Λ2 J : Lam) (p0 : Int) (p1 : Int) : bodyC SE (C12 Γ) Λ2 J 12 [.d (.int .i64 p0), .d (.int .i64 p1)] [] [] =
  (some (.ret [api_Conn.av (api_Conn.mk p0 0 ([] : Str) ([] : Str) 0 p1 false)] [] [])) := by kernel_rfl
abbrev X12 : CFun := C12 (callG SE good)
theorem Cr12 : C12 (callG SE good) = bindC (callG SE good) := by unfold C12; rfl
theorem conn_New_ok (p0 : Int) (p1 : Int) : Le (Option.map conn_New_out (conn_New p0 p1)) (callW SE 12 [.d (.int .i64 p0), .d (.int .i64 p1)] [] []) := by
  refine le_bodyC Cr12 ?_
  refine Le.trans ?_ (le_of_eq (T12 _ _ _  p0 p1).symm)
  unfold conn_New
  exact le_ret (by first | rfl | (simp only [EN, conn_New_out]; done) | (simp only [EN, conn_New_out]; rfl))
def C17 (Γ : Fun)  : CFun := bindC Γ
theorem T17 (Γ : Fun)  (Λ2 J : Lam) (p0 : api_Conn) (p1 : Int) : bodyC SE (C17 Γ) Λ2 J 17 [api_Conn.av p0, .d (.int .i64 p1)] [] [] =
  cond (p0.State == 0) (
   (some (.ret [.d (.bool (decide ((IntKind.wrap .i64 (p1 - p0.Last)) > 10)))] [] []))) (
  cond (p0.State == 1) (
   cond (p0.Keep != 0) (
    (some (.ret [.d (.bool (decide ((IntKind.wrap .i64 (p1 - p0.Last)) > (IntKind.wrap .i64 (p0.Keep + (IntKind.wrap .i64 (Int.tdiv p0.Keep 2)))))))] [] []))) (
   (some (.ret [.d (.bool false)] [] [])))) (
  (some (.ret [.d (.bool false)] [] [])))) := by kernel_rfl
abbrev X17 : CFun := C17 (callG SE good)
theorem Cr17 : C17 (callG SE good) = bindC (callG SE good) := by unfold C17; rfl
theorem conn_Expired_ok (p0 : api_Conn) (p1 : Int) : Le (Option.map conn_Expired_out (conn_Expired p0 p1)) (callW SE 17 [api_Conn.av p0, .d (.int .i64 p1)] [] []) := by
  refine le_bodyC Cr17 ?_
  refine Le.trans ?_ (le_of_eq (T17 _ _ _  p0 p1).symm)
  unfold conn_Expired
  refine le_cond rfl (fun _ => ?_) (fun _ => ?_)
  · skip
    exact le_ret (by first | rfl | (simp only [EN, conn_Expired_out]; done) | (simp only [EN, conn_Expired_out]; rfl))
  · skip
    refine le_cond rfl (fun _ => ?_) (fun _ => ?_)
    · skip
      refine le_cond rfl (fun _ => ?_) (fun _ => ?_)
      · skip
        exact le_ret (by first | rfl | (simp only [EN, conn_Expired_out]; done) | (simp only [EN, conn_Expired_out]; rfl))
      · skip
        exact le_ret (by first | rfl | (simp only [EN, conn_Expired_out]; done) | (simp only [EN, conn_Expired_out]; rfl))
    · skip
      exact le_ret (by first | rfl | (simp only [EN, conn_Expired_out]; done) | (simp only [EN, conn_Expired_out]; rfl))
def C39 (Γ : Fun)  : CFun := bindC Γ
theorem T39 (Γ : Fun)  (Λ2 J : Lam) (p0 : Int) (p1 : Int) (p2 : Int) : bodyC SE (C39 Γ) Λ2 J 39 [.d (.int .i64 p0), .d (.int .i64 p1), .d (.int .i64 p2)] [] [] =
  cond (decide (p0 ≥ p1)) (
   (some (.ret [.d (.bool (decide (p0 ≤ p2)))] [] []))) (
  (some (.ret [.d (.bool false)] [] []))) := by kernel_rfl
abbrev X39 : CFun := C39 (callG SE good)
theorem Cr39 : C39 (callG SE good) = bindC (callG SE good) := by unfold C39; rfl
theorem packet_is_ok (p0 : Int) (p1 : Int) (p2 : Int) : Le (Option.map packet_is_out (packet_is p0 p1 p2)) (callW SE 39 [.d (.int .i64 p0), .d (.int .i64 p1), .d (.int .i64 p2)] [] []) := by
  refine le_bodyC Cr39 ?_
  refine Le.trans ?_ (le_of_eq (T39 _ _ _  p0 p1 p2).symm)
  unfold packet_is
  refine le_cond rfl (fun _ => ?_) (fun _ => ?_)
  · skip
    exact le_ret (by first | rfl | (simp only [EN, packet_is_out]; done) | (simp only [EN, packet_is_out]; rfl))
  · skip
    exact le_ret (by first | rfl | (simp only [EN, packet_is_out]; done) | (simp only [EN, packet_is_out]; rfl))
def C41 (Γ : Fun)  : CFun := bindC Γ
theorem T41 (Γ : Fun)  (Λ2 J : Lam) (p0 : api_Packet) : bodyC SE (C41 Γ) Λ2 J 41 [api_Packet.av p0] [] [] =
  cond (p0.Kind == 1) (
   (some (.ret [.agg [.d (.int .i64 p0.Kind), .d (.int .i64 0), .d (.bool false), .d (.str ([] : Str)), .d (.str ([] : Str)), .d (.int .i64 0), .d (.bool false), .d (.int .i64 0), .d (.int .i64 0), .d (.str ([] : Str)), .d (.int .i64 0), .d (.sl api_Prop.ks (List.map api_Prop.enc [])), .d (.str p0.Client), .d (.str p0.User), .d (.bool p0.Clean), .d (.int .i64 p0.Keep), .d (.int .i64 p0.Expiry), .d (.int .i64 p0.Window), .d (.bool p0.Will.Set), .d (.int .i64 p0.Will.Delay), .d (.str p0.Will.Message.Topic), .d (.str p0.Will.Message.Payload), .d (.int .i64 p0.Will.Message.Level), .d (.bool p0.Will.Message.Retain), .d (.int .i64 p0.Will.Message.Priority), .d (.int .i64 p0.Will.Message.Expires), .d (.str p0.Will.Message.From), .d (.int .i64 p0.Will.Message.Seq), .d (.sl api_Prop.ks (List.map api_Prop.enc p0.Will.Message.Props)), .d (.bool false), .d (.int .i64 0), .d (.sl api_Sub.ks (List.map api_Sub.enc [])), .d (.sl [.str] (List.map encS [])), .d (.sl [.int .i64] (List.map (encI .i64) []))]] [] []))) (
  cond (p0.Kind == 2) (
   (some (.ret [.agg [.d (.int .i64 p0.Kind), .d (.int .i64 0), .d (.bool false), .d (.str ([] : Str)), .d (.str ([] : Str)), .d (.int .i64 0), .d (.bool false), .d (.int .i64 0), .d (.int .i64 0), .d (.str ([] : Str)), .d (.int .i64 0), .d (.sl api_Prop.ks (List.map api_Prop.enc [])), .d (.str ([] : Str)), .d (.str ([] : Str)), .d (.bool false), .d (.int .i64 0), .d (.int .i64 0), .d (.int .i64 0), .d (.bool false), .d (.int .i64 0), .d (.str ([] : Str)), .d (.str ([] : Str)), .d (.int .i64 0), .d (.bool false), .d (.int .i64 0), .d (.int .i64 0), .d (.str ([] : Str)), .d (.int .i64 0), .d (.sl api_Prop.ks (List.map api_Prop.enc [])), .d (.bool p0.Present), .d (.int .i64 p0.Code), .d (.sl api_Sub.ks (List.map api_Sub.enc [])), .d (.sl [.str] (List.map encS [])), .d (.sl [.int .i64] (List.map (encI .i64) []))]] [] []))) (
  cond (p0.Kind == 3) (
   (some (.ret [.agg [.d (.int .i64 p0.Kind), .d (.int .i64 p0.ID), .d (.bool p0.Dup), .d (.str p0.Message.Topic), .d (.str p0.Message.Payload), .d (.int .i64 p0.Message.Level), .d (.bool p0.Message.Retain), .d (.int .i64 p0.Message.Priority), .d (.int .i64 p0.Message.Expires), .d (.str p0.Message.From), .d (.int .i64 p0.Message.Seq), .d (.sl api_Prop.ks (List.map api_Prop.enc p0.Message.Props)), .d (.str ([] : Str)), .d (.str ([] : Str)), .d (.bool false), .d (.int .i64 0), .d (.int .i64 0), .d (.int .i64 0), .d (.bool false), .d (.int .i64 0), .d (.str ([] : Str)), .d (.str ([] : Str)), .d (.int .i64 0), .d (.bool false), .d (.int .i64 0), .d (.int .i64 0), .d (.str ([] : Str)), .d (.int .i64 0), .d (.sl api_Prop.ks (List.map api_Prop.enc [])), .d (.bool false), .d (.int .i64 0), .d (.sl api_Sub.ks (List.map api_Sub.enc [])), .d (.sl [.str] (List.map encS [])), .d (.sl [.int .i64] (List.map (encI .i64) []))]] [] []))) (
  cond (p0.Kind == 4) (
   (some (.ret [.agg [.d (.int .i64 p0.Kind), .d (.int .i64 p0.ID), .d (.bool false), .d (.str ([] : Str)), .d (.str ([] : Str)), .d (.int .i64 0), .d (.bool false), .d (.int .i64 0), .d (.int .i64 0), .d (.str ([] : Str)), .d (.int .i64 0), .d (.sl api_Prop.ks (List.map api_Prop.enc [])), .d (.str ([] : Str)), .d (.str ([] : Str)), .d (.bool false), .d (.int .i64 0), .d (.int .i64 0), .d (.int .i64 0), .d (.bool false), .d (.int .i64 0), .d (.str ([] : Str)), .d (.str ([] : Str)), .d (.int .i64 0), .d (.bool false), .d (.int .i64 0), .d (.int .i64 0), .d (.str ([] : Str)), .d (.int .i64 0), .d (.sl api_Prop.ks (List.map api_Prop.enc [])), .d (.bool false), .d (.int .i64 0), .d (.sl api_Sub.ks (List.map api_Sub.enc [])), .d (.sl [.str] (List.map encS [])), .d (.sl [.int .i64] (List.map (encI .i64) []))]] [] []))) (
  cond (p0.Kind == 5) (
   (some (.ret [.agg [.d (.int .i64 p0.Kind), .d (.int .i64 p0.ID), .d (.bool false), .d (.str ([] : Str)), .d (.str ([] : Str)), .d (.int .i64 0), .d (.bool false), .d (.int .i64 0), .d (.int .i64 0), .d (.str ([] : Str)), .d (.int .i64 0), .d (.sl api_Prop.ks (List.map api_Prop.enc [])), .d (.str ([] : Str)), .d (.str ([] : Str)), .d (.bool false), .d (.int .i64 0), .d (.int .i64 0), .d (.int .i64 0), .d (.bool false), .d (.int .i64 0), .d (.str ([] : Str)), .d (.str ([] : Str)), .d (.int .i64 0), .d (.bool false), .d (.int .i64 0), .d (.int .i64 0), .d (.str ([] : Str)), .d (.int .i64 0), .d (.sl api_Prop.ks (List.map api_Prop.enc [])), .d (.bool false), .d (.int .i64 0), .d (.sl api_Sub.ks (List.map api_Sub.enc [])), .d (.sl [.str] (List.map encS [])), .d (.sl [.int .i64] (List.map (encI .i64) []))]] [] []))) (
  cond (p0.Kind == 6) (
   (some (.ret [.agg [.d (.int .i64 p0.Kind), .d (.int .i64 p0.ID), .d (.bool false), .d (.str ([] : Str)), .d (.str ([] : Str)), .d (.int .i64 0), .d (.bool false), .d (.int .i64 0), .d (.int .i64 0), .d (.str ([] : Str)), .d (.int .i64 0), .d (.sl api_Prop.ks (List.map api_Prop.enc [])), .d (.str ([] : Str)), .d (.str ([] : Str)), .d (.bool false), .d (.int .i64 0), .d (.int .i64 0), .d (.int .i64 0), .d (.bool false), .d (.int .i64 0), .d (.str ([] : Str)), .d (.str ([] : Str)), .d (.int .i64 0), .d (.bool false), .d (.int .i64 0), .d (.int .i64 0), .d (.str ([] : Str)), .d (.int .i64 0), .d (.sl api_Prop.ks (List.map api_Prop.enc [])), .d (.bool false), .d (.int .i64 0), .d (.sl api_Sub.ks (List.map api_Sub.enc [])), .d (.sl [.str] (List.map encS [])), .d (.sl [.int .i64] (List.map (encI .i64) []))]] [] []))) (
  cond (p0.Kind == 7) (
   (some (.ret [.agg [.d (.int .i64 p0.Kind), .d (.int .i64 p0.ID), .d (.bool false), .d (.str ([] : Str)), .d (.str ([] : Str)), .d (.int .i64 0), .d (.bool false), .d (.int .i64 0), .d (.int .i64 0), .d (.str ([] : Str)), .d (.int .i64 0), .d (.sl api_Prop.ks (List.map api_Prop.enc [])), .d (.str ([] : Str)), .d (.str ([] : Str)), .d (.bool false), .d (.int .i64 0), .d (.int .i64 0), .d (.int .i64 0), .d (.bool false), .d (.int .i64 0), .d (.str ([] : Str)), .d (.str ([] : Str)), .d (.int .i64 0), .d (.bool false), .d (.int .i64 0), .d (.int .i64 0), .d (.str ([] : Str)), .d (.int .i64 0), .d (.sl api_Prop.ks (List.map api_Prop.enc [])), .d (.bool false), .d (.int .i64 0), .d (.sl api_Sub.ks (List.map api_Sub.enc [])), .d (.sl [.str] (List.map encS [])), .d (.sl [.int .i64] (List.map (encI .i64) []))]] [] []))) (
  cond (p0.Kind == 8) (
   (some (.ret [.agg [.d (.int .i64 p0.Kind), .d (.int .i64 p0.ID), .d (.bool false), .d (.str ([] : Str)), .d (.str ([] : Str)), .d (.int .i64 0), .d (.bool false), .d (.int .i64 0), .d (.int .i64 0), .d (.str ([] : Str)), .d (.int .i64 0), .d (.sl api_Prop.ks (List.map api_Prop.enc [])), .d (.str ([] : Str)), .d (.str ([] : Str)), .d (.bool false), .d (.int .i64 0), .d (.int .i64 0), .d (.int .i64 0), .d (.bool false), .d (.int .i64 0), .d (.str ([] : Str)), .d (.str ([] : Str)), .d (.int .i64 0), .d (.bool false), .d (.int .i64 0), .d (.int .i64 0), .d (.str ([] : Str)), .d (.int .i64 0), .d (.sl api_Prop.ks (List.map api_Prop.enc [])), .d (.bool false), .d (.int .i64 0), .d (.sl api_Sub.ks (List.map api_Sub.enc p0.Subs)), .d (.sl [.str] (List.map encS [])), .d (.sl [.int .i64] (List.map (encI .i64) []))]] [] []))) (
  cond (p0.Kind == 9) (
   (some (.ret [.agg [.d (.int .i64 p0.Kind), .d (.int .i64 p0.ID), .d (.bool false), .d (.str ([] : Str)), .d (.str ([] : Str)), .d (.int .i64 0), .d (.bool false), .d (.int .i64 0), .d (.int .i64 0), .d (.str ([] : Str)), .d (.int .i64 0), .d (.sl api_Prop.ks (List.map api_Prop.enc [])), .d (.str ([] : Str)), .d (.str ([] : Str)), .d (.bool false), .d (.int .i64 0), .d (.int .i64 0), .d (.int .i64 0), .d (.bool false), .d (.int .i64 0), .d (.str ([] : Str)), .d (.str ([] : Str)), .d (.int .i64 0), .d (.bool false), .d (.int .i64 0), .d (.int .i64 0), .d (.str ([] : Str)), .d (.int .i64 0), .d (.sl api_Prop.ks (List.map api_Prop.enc [])), .d (.bool false), .d (.int .i64 0), .d (.sl api_Sub.ks (List.map api_Sub.enc [])), .d (.sl [.str] (List.map encS [])), .d (.sl [.int .i64] (List.map (encI .i64) p0.Codes))]] [] []))) (
  cond (p0.Kind == 11) (
   (some (.ret [.agg [.d (.int .i64 p0.Kind), .d (.int .i64 p0.ID), .d (.bool false), .d (.str ([] : Str)), .d (.str ([] : Str)), .d (.int .i64 0), .d (.bool false), .d (.int .i64 0), .d (.int .i64 0), .d (.str ([] : Str)), .d (.int .i64 0), .d (.sl api_Prop.ks (List.map api_Prop.enc [])), .d (.str ([] : Str)), .d (.str ([] : Str)), .d (.bool false), .d (.int .i64 0), .d (.int .i64 0), .d (.int .i64 0), .d (.bool false), .d (.int .i64 0), .d (.str ([] : Str)), .d (.str ([] : Str)), .d (.int .i64 0), .d (.bool false), .d (.int .i64 0), .d (.int .i64 0), .d (.str ([] : Str)), .d (.int .i64 0), .d (.sl api_Prop.ks (List.map api_Prop.enc [])), .d (.bool false), .d (.int .i64 0), .d (.sl api_Sub.ks (List.map api_Sub.enc [])), .d (.sl [.str] (List.map encS [])), .d (.sl [.int .i64] (List.map (encI .i64) p0.Codes))]] [] []))) (
  cond (p0.Kind == 10) (
   (some (.ret [.agg [.d (.int .i64 p0.Kind), .d (.int .i64 p0.ID), .d (.bool false), .d (.str ([] : Str)), .d (.str ([] : Str)), .d (.int .i64 0), .d (.bool false), .d (.int .i64 0), .d (.int .i64 0), .d (.str ([] : Str)), .d (.int .i64 0), .d (.sl api_Prop.ks (List.map api_Prop.enc [])), .d (.str ([] : Str)), .d (.str ([] : Str)), .d (.bool false), .d (.int .i64 0), .d (.int .i64 0), .d (.int .i64 0), .d (.bool false), .d (.int .i64 0), .d (.str ([] : Str)), .d (.str ([] : Str)), .d (.int .i64 0), .d (.bool false), .d (.int .i64 0), .d (.int .i64 0), .d (.str ([] : Str)), .d (.int .i64 0), .d (.sl api_Prop.ks (List.map api_Prop.enc [])), .d (.bool false), .d (.int .i64 0), .d (.sl api_Sub.ks (List.map api_Sub.enc [])), .d (.sl [.str] (List.map encS p0.Filters)), .d (.sl [.int .i64] (List.map (encI .i64) []))]] [] []))) (
  cond (p0.Kind == 14) (
   (some (.ret [.agg [.d (.int .i64 p0.Kind), .d (.int .i64 0), .d (.bool false), .d (.str ([] : Str)), .d (.str ([] : Str)), .d (.int .i64 0), .d (.bool false), .d (.int .i64 0), .d (.int .i64 0), .d (.str ([] : Str)), .d (.int .i64 0), .d (.sl api_Prop.ks (List.map api_Prop.enc [])), .d (.str ([] : Str)), .d (.str ([] : Str)), .d (.bool false), .d (.int .i64 0), .d (.int .i64 0), .d (.int .i64 0), .d (.bool false), .d (.int .i64 0), .d (.str ([] : Str)), .d (.str ([] : Str)), .d (.int .i64 0), .d (.bool false), .d (.int .i64 0), .d (.int .i64 0), .d (.str ([] : Str)), .d (.int .i64 0), .d (.sl api_Prop.ks (List.map api_Prop.enc [])), .d (.bool false), .d (.int .i64 p0.Code), .d (.sl api_Sub.ks (List.map api_Sub.enc [])), .d (.sl [.str] (List.map encS [])), .d (.sl [.int .i64] (List.map (encI .i64) []))]] [] []))) (
  (some (.ret [.agg [.d (.int .i64 p0.Kind), .d (.int .i64 0), .d (.bool false), .d (.str ([] : Str)), .d (.str ([] : Str)), .d (.int .i64 0), .d (.bool false), .d (.int .i64 0), .d (.int .i64 0), .d (.str ([] : Str)), .d (.int .i64 0), .d (.sl api_Prop.ks (List.map api_Prop.enc [])), .d (.str ([] : Str)), .d (.str ([] : Str)), .d (.bool false), .d (.int .i64 0), .d (.int .i64 0), .d (.int .i64 0), .d (.bool false), .d (.int .i64 0), .d (.str ([] : Str)), .d (.str ([] : Str)), .d (.int .i64 0), .d (.bool false), .d (.int .i64 0), .d (.int .i64 0), .d (.str ([] : Str)), .d (.int .i64 0), .d (.sl api_Prop.ks (List.map api_Prop.enc [])), .d (.bool false), .d (.int .i64 0), .d (.sl api_Sub.ks (List.map api_Sub.enc [])), .d (.sl [.str] (List.map encS [])), .d (.sl [.int .i64] (List.map (encI .i64) []))]] [] [])))))))))))))) := by kernel_rfl
abbrev X41 : CFun := C41 (callG SE good)
theorem Cr41 : C41 (callG SE good) = bindC (callG SE good) := by unfold C41; rfl
theorem packet_used_ok (p0 : api_Packet) : Le (Option.map packet_used_out (packet_used p0)) (callW SE 41 [api_Packet.av p0] [] []) := by
  refine le_bodyC Cr41 ?_
  refine Le.trans ?_ (le_of_eq (T41 _ _ _  p0).symm)
  unfold packet_used
  refine le_cond rfl (fun _ => ?_) (fun _ => ?_)
  · skip
    exact le_ret (by first | rfl | (simp only [EN, packet_used_out]; done) | (simp only [EN, packet_used_out]; rfl))
  · skip
    refine le_cond rfl (fun _ => ?_) (fun _ => ?_)
    · skip
      exact le_ret (by first | rfl | (simp only [EN, packet_used_out]; done) | (simp only [EN, packet_used_out]; rfl))
    · skip
      refine le_cond rfl (fun _ => ?_) (fun _ => ?_)
      · skip
        exact le_ret (by first | rfl | (simp only [EN, packet_used_out]; done) | (simp only [EN, packet_used_out]; rfl))
      · skip
        refine le_cond rfl (fun _ => ?_) (fun _ => ?_)
        · skip
          exact le_ret (by first | rfl | (simp only [EN, packet_used_out]; done) | (simp only [EN, packet_used_out]; rfl))
        · skip
          refine le_cond rfl (fun _ => ?_) (fun _ => ?_)
          · skip
            exact le_ret (by first | rfl | (simp only [EN, packet_used_out]; done) | (simp only [EN, packet_used_out]; rfl))
          · skip
            refine le_cond rfl (fun _ => ?_) (fun _ => ?_)
            · skip
              exact le_ret (by first | rfl | (simp only [EN, packet_used_out]; done) | (simp only [EN, packet_used_out]; rfl))
            · skip
              refine le_cond rfl (fun _ => ?_) (fun _ => ?_)
              · skip
                exact le_ret (by first | rfl | (simp only [EN, packet_used_out]; done) | (simp only [EN, packet_used_out]; rfl))
              · skip
                refine le_cond rfl (fun _ => ?_) (fun _ => ?_)
                · skip
                  exact le_ret (by first | rfl | (simp only [EN, packet_used_out]; done) | (simp only [EN, packet_used_out]; rfl))
                · skip
                  refine le_cond rfl (fun _ => ?_) (fun _ => ?_)
                  · skip
                    exact le_ret (by first | rfl | (simp only [EN, packet_used_out]; done) | (simp only [EN, packet_used_out]; rfl))
                  · skip
                    refine le_cond rfl (fun _ => ?_) (fun _ => ?_)
                    · skip
                      exact le_ret (by first | rfl | (simp only [EN, packet_used_out]; done) | (simp only [EN, packet_used_out]; rfl))
                    · skip
                      refine le_cond rfl (fun _ => ?_) (fun _ => ?_)
                      · skip
                        exact le_ret (by first | rfl | (simp only [EN, packet_used_out]; done) | (simp only [EN, packet_used_out]; rfl))
                      · skip
                        refine le_cond rfl (fun _ => ?_) (fun _ => ?_)
                        · skip
                          exact le_ret (by first | rfl | (simp only [EN, packet_used_out]; done) | (simp only [EN, packet_used_out]; rfl))
                        · skip
                          exact le_ret (by first | rfl | (simp only [EN, packet_used_out]; done) | (simp only [EN, packet_used_out]; rfl))
def C59 (Γ : Fun)  : CFun := bindC Γ
theorem T59 (Γ : Fun)  (Λ2 J : Lam) (p0 : api_Packet) : bodyC SE (C59 Γ) Λ2 J 59 [api_Packet.av p0] [] [] =
  (some (.ret [packet_plain.av (packet_plain.mk p0.Kind p0.ID p0.Keep p0.Expiry p0.Window p0.Code p0.Will.Delay p0.Dup p0.Clean p0.Present p0.Will.Set p0.Client p0.User)] [] [])) := by kernel_rfl
abbrev X59 : CFun := C59 (callG SE good)
theorem Cr59 : C59 (callG SE good) = bindC (callG SE good) := by unfold C59; rfl
theorem packet_plainOf_ok (p0 : api_Packet) : Le (Option.map packet_plainOf_out (packet_plainOf p0)) (callW SE 59 [api_Packet.av p0] [] []) := by
  refine le_bodyC Cr59 ?_
  refine Le.trans ?_ (le_of_eq (T59 _ _ _  p0).symm)
  unfold packet_plainOf
  exact le_ret (by first | rfl | (simp only [EN, packet_plainOf_out]; done) | (simp only [EN, packet_plainOf_out]; rfl))
def C60 (Γ : Fun)  : CFun := bindC Γ
def R60_4 (C : CFun) (Λ2 J : Lam) (a0 : (List (List D))) (a1 : Int) (a2 : Int) (a3 : (List D)) : Res := lab SE C Λ2 J 60 0 [1, 1, 0, 1, 0] (stoOf [(3, .ptr 1000000000 0), (71, .d (.sl api_Prop.ks a0)), (72, .d (.int .i64 a1)), (73, .d (.int .i64 a2))] [⟨32, (List.map AV.d a3)⟩] [] [] [])
def R60_3 (C : CFun) (Λ2 J : Lam) (a0 : (List D)) (a1 : (List D)) : Res := lab SE C Λ2 J 60 0 [1, 1, 0, 0] (stoOf [(2, .ptr 1000000000 0), (3, .ptr 1000000001 0)] [⟨32, (List.map AV.d a0)⟩, ⟨32, (List.map AV.d a1)⟩] [] [] [])
theorem T60 (Γ : Fun)  (Λ2 J : Lam) (p0 : api_Message) (p1 : api_Message) : bodyC SE (C60 Γ) Λ2 J 60 [api_Message.av p0, api_Message.av p1] [] [] =
  cond (!(p0.Topic == p1.Topic)) (
   (some (.ret [.d (.bool false)] [] []))) (
  cond (!(p0.Payload == p1.Payload)) (
   (some (.ret [.d (.bool false)] [] []))) (
  cond (p0.Level != p1.Level) (
   (some (.ret [.d (.bool false)] [] []))) (
  cond (p0.Retain != p1.Retain) (
   (some (.ret [.d (.bool false)] [] []))) (
  cond (p0.Priority != p1.Priority) (
   (some (.ret [.d (.bool false)] [] []))) (
  cond (p0.Expires != p1.Expires) (
   (some (.ret [.d (.bool false)] [] []))) (
  cond (!(p0.From == p1.From)) (
   (some (.ret [.d (.bool false)] [] []))) (
  cond (p0.Seq != p1.Seq) (
   (some (.ret [.d (.bool false)] [] []))) (
  cond ((List.length (List.map api_Prop.enc p0.Props) : Int) != (List.length (List.map api_Prop.enc p1.Props) : Int)) (
   (some (.ret [.d (.bool false)] [] []))) (
  R60_3 (C60 Γ) Λ2 J (api_Message.enc p0) (api_Message.enc p1)))))))))) := by kernel_rfl
theorem T60_4 (Γ : Fun)  (Λ2 J : Lam) (x71 : (List api_Prop)) (x72 : Int) (x73 : Int) (b0 : api_Message) : labU SE (C60 Γ) Λ2 J 60 0 [1, 1, 0, 1, 0] (stoOf [(3, .ptr 1000000000 0), (71, .d (.sl api_Prop.ks (List.map api_Prop.enc x71))), (72, .d (.int .i64 x72)), (73, .d (.int .i64 x73))] [⟨32, (List.map AV.d (api_Message.enc b0))⟩] [] [] []) =
  cond (decide (x73 < x72)) (
   cond (decide (0 ≤ x73) && decide (x73 < (List.length (List.map api_Prop.enc x71) : Int))) (
    cond (decide (0 ≤ x73) && decide (x73 < (List.length (List.map api_Prop.enc b0.Props) : Int))) (
     cond (!(((dStr (cellAt (elemAt (List.map api_Prop.enc x71) (Int.toNat x73)) 0)) == (dStr (cellAt (elemAt (List.map api_Prop.enc b0.Props) (Int.toNat x73)) 0))) && (((dStr (cellAt (elemAt (List.map api_Prop.enc x71) (Int.toNat x73)) 1)) == (dStr (cellAt (elemAt (List.map api_Prop.enc b0.Props) (Int.toNat x73)) 1))) && true))) (
      (some (.ret [.d (.bool false)] [] []))) (
     R60_4 (C60 Γ) Λ2 J (List.map api_Prop.enc x71) x72 (IntKind.wrap .i64 (x73 + 1)) (api_Message.enc b0))) none) none) (
  (some (.ret [.d (.bool true)] [] []))) := by kernel_rfl
theorem T60_3 (Γ : Fun)  (Λ2 J : Lam) (b0 : api_Message) (b1 : api_Message) : labU SE (C60 Γ) Λ2 J 60 0 [1, 1, 0, 0] (stoOf [(2, .ptr 1000000000 0), (3, .ptr 1000000001 0)] [⟨32, (List.map AV.d (api_Message.enc b0))⟩, ⟨32, (List.map AV.d (api_Message.enc b1))⟩] [] [] []) =
  R60_4 (C60 Γ) Λ2 J (List.map api_Prop.enc b0.Props) (List.length (List.map api_Prop.enc b0.Props) : Int) 0 (api_Message.enc b1) := by kernel_rfl
abbrev X60 : CFun := C60 (callG SE good)
theorem Cr60 : C60 (callG SE good) = bindC (callG SE good) := by unfold C60; rfl
noncomputable abbrev Q60_4 (a0 : (List (List D))) (a1 : Int) (a2 : Int) (a3 : (List D)) : Res := R60_4 X60 (lam2 SE (callG SE good) (SE.hl 60) (SE.hr 60)) (J0 SE X60) a0 a1 a2 a3
noncomputable abbrev Q60_3 (a0 : (List D)) (a1 : (List D)) : Res := R60_3 X60 (lam2 SE (callG SE good) (SE.hl 60) (SE.hr 60)) (J0 SE X60) a0 a1
theorem message_Same_l4_ok : ∀ (fu : Nat) (x71 : (List api_Prop)) (x72 : Int) (x73 : Int) (b0 : api_Message), Le (Option.map message_Same_out (message_Same_l4 fu x71 x72 x73 b0)) (Q60_4 (List.map api_Prop.enc x71) x72 x73 (api_Message.enc b0)) := by
  intro fu
  induction fu with
  | zero => intros; exact le_none
  | succ fu ih =>
    intro x71 x72 x73 b0
    refine Le.trans ?_ (le_of_eq ((lab_realC Cr60).trans (T60_4 _ _ _  x71 x72 x73 b0)).symm)
    unfold message_Same_l4
    refine le_cond rfl (fun _ => ?_) (fun _ => ?_)
    · skip
      refine le_cond (by simp only [EN]) (fun _ => ?_) (fun _ => le_none)
      refine le_cond (by simp only [EN]) (fun _ => ?_) (fun _ => le_none)
      refine le_cond (by simp only [EN]) (fun _ => ?_) (fun _ => ?_)
      · skip
        exact le_ret (by first | rfl | (simp only [EN, message_Same_out]; done) | (simp only [EN, message_Same_out]; rfl))
      · skip
        exact ih x71 x72 (IntKind.wrap .i64 (x73 + 1)) b0
    · skip
      exact le_ret (by first | rfl | (simp only [EN, message_Same_out]; done) | (simp only [EN, message_Same_out]; rfl))
theorem message_Same_j3_ok (b0 : api_Message) (b1 : api_Message) : Le (Option.map message_Same_out (message_Same_j3 b0 b1)) (Q60_3 (api_Message.enc b0) (api_Message.enc b1)) := by
  refine Le.trans ?_ (le_of_eq ((lab_realC Cr60).trans (T60_3 _ _ _  b0 b1)).symm)
  unfold message_Same_j3
  first | (simp only [EN]; exact message_Same_l4_ok fuel b0.Props (List.length b0.Props : Int) 0 b1) | exact message_Same_l4_ok fuel b0.Props (List.length b0.Props : Int) 0 b1
theorem message_Same_ok (p0 : api_Message) (p1 : api_Message) : Le (Option.map message_Same_out (message_Same p0 p1)) (callW SE 60 [api_Message.av p0, api_Message.av p1] [] []) := by
  refine le_bodyC Cr60 ?_
  refine Le.trans ?_ (le_of_eq (T60 _ _ _  p0 p1).symm)
  unfold message_Same
  refine le_cond rfl (fun _ => ?_) (fun _ => ?_)
  · skip
    exact le_ret (by first | rfl | (simp only [EN, message_Same_out]; done) | (simp only [EN, message_Same_out]; rfl))
  · skip
    refine le_cond rfl (fun _ => ?_) (fun _ => ?_)
    · skip
      exact le_ret (by first | rfl | (simp only [EN, message_Same_out]; done) | (simp only [EN, message_Same_out]; rfl))
    · skip
      refine le_cond rfl (fun _ => ?_) (fun _ => ?_)
      · skip
        exact le_ret (by first | rfl | (simp only [EN, message_Same_out]; done) | (simp only [EN, message_Same_out]; rfl))
      · skip
        refine le_cond rfl (fun _ => ?_) (fun _ => ?_)
        · skip
          exact le_ret (by first | rfl | (simp only [EN, message_Same_out]; done) | (simp only [EN, message_Same_out]; rfl))
        · skip
          refine le_cond rfl (fun _ => ?_) (fun _ => ?_)
          · skip
            exact le_ret (by first | rfl | (simp only [EN, message_Same_out]; done) | (simp only [EN, message_Same_out]; rfl))
          · skip
            refine le_cond rfl (fun _ => ?_) (fun _ => ?_)
            · skip
              exact le_ret (by first | rfl | (simp only [EN, message_Same_out]; done) | (simp only [EN, message_Same_out]; rfl))
            · skip
              refine le_cond rfl (fun _ => ?_) (fun _ => ?_)
              · skip
                exact le_ret (by first | rfl | (simp only [EN, message_Same_out]; done) | (simp only [EN, message_Same_out]; rfl))
              · skip
                refine le_cond rfl (fun _ => ?_) (fun _ => ?_)
                · skip
                  exact le_ret (by first | rfl | (simp only [EN, message_Same_out]; done) | (simp only [EN, message_Same_out]; rfl))
                · skip
                  refine le_cond (by simp only [EN]) (fun _ => ?_) (fun _ => ?_)
                  · skip
                    exact le_ret (by first | rfl | (simp only [EN, message_Same_out]; done) | (simp only [EN, message_Same_out]; rfl))
                  · skip
                    exact message_Same_j3_ok p0 p1
def C61 (Γ : Fun)  : CFun := bindC Γ
def R61_4 (C : CFun) (Λ2 J : Lam) (a0 : (List (List D))) (a1 : (List (List D))) (a2 : Int) (a3 : Int) : Res := lab SE C Λ2 J 61 0 [1, 1, 0, 1, 0] (stoOf [(1, .d (.sl api_Sub.ks a0)), (12, .d (.sl api_Sub.ks a1)), (13, .d (.int .i64 a2)), (14, .d (.int .i64 a3))] [] [] [] [])
theorem T61 (Γ : Fun)  (Λ2 J : Lam) (p0 : (List api_Sub)) (p1 : (List api_Sub)) : bodyC SE (C61 Γ) Λ2 J 61 [.d (.sl api_Sub.ks (List.map api_Sub.enc p0)), .d (.sl api_Sub.ks (List.map api_Sub.enc p1))] [] [] =
  cond ((List.length (List.map api_Sub.enc p0) : Int) != (List.length (List.map api_Sub.enc p1) : Int)) (
   (some (.ret [.d (.bool false)] [] []))) (
  R61_4 (C61 Γ) Λ2 J (List.map api_Sub.enc p1) (List.map api_Sub.enc p0) (List.length (List.map api_Sub.enc p0) : Int) 0) := by kernel_rfl
theorem T61_4 (Γ : Fun)  (Λ2 J : Lam) (x1 : (List api_Sub)) (x12 : (List api_Sub)) (x13 : Int) (x14 : Int) : labU SE (C61 Γ) Λ2 J 61 0 [1, 1, 0, 1, 0] (stoOf [(1, .d (.sl api_Sub.ks (List.map api_Sub.enc x1))), (12, .d (.sl api_Sub.ks (List.map api_Sub.enc x12))), (13, .d (.int .i64 x13)), (14, .d (.int .i64 x14))] [] [] [] []) =
  cond (decide (x14 < x13)) (
   cond (decide (0 ≤ x14) && decide (x14 < (List.length (List.map api_Sub.enc x12) : Int))) (
    cond (decide (0 ≤ x14) && decide (x14 < (List.length (List.map api_Sub.enc x1) : Int))) (
     cond (!(((dStr (cellAt (elemAt (List.map api_Sub.enc x12) (Int.toNat x14)) 0)) == (dStr (cellAt (elemAt (List.map api_Sub.enc x1) (Int.toNat x14)) 0))) && (((dInt (cellAt (elemAt (List.map api_Sub.enc x12) (Int.toNat x14)) 1)) == (dInt (cellAt (elemAt (List.map api_Sub.enc x1) (Int.toNat x14)) 1))) && (((dBool (cellAt (elemAt (List.map api_Sub.enc x12) (Int.toNat x14)) 2)) == (dBool (cellAt (elemAt (List.map api_Sub.enc x1) (Int.toNat x14)) 2))) && true)))) (
      (some (.ret [.d (.bool false)] [] []))) (
     R61_4 (C61 Γ) Λ2 J (List.map api_Sub.enc x1) (List.map api_Sub.enc x12) x13 (IntKind.wrap .i64 (x14 + 1)))) none) none) (
  (some (.ret [.d (.bool true)] [] []))) := by kernel_rfl
abbrev X61 : CFun := C61 (callG SE good)
theorem Cr61 : C61 (callG SE good) = bindC (callG SE good) := by unfold C61; rfl
noncomputable abbrev Q61_4 (a0 : (List (List D))) (a1 : (List (List D))) (a2 : Int) (a3 : Int) : Res := R61_4 X61 (lam2 SE (callG SE good) (SE.hl 61) (SE.hr 61)) (J0 SE X61) a0 a1 a2 a3
theorem packet_subs_l4_ok : ∀ (fu : Nat) (x1 : (List api_Sub)) (x12 : (List api_Sub)) (x13 : Int) (x14 : Int), Le (Option.map packet_subs_out (packet_subs_l4 fu x1 x12 x13 x14)) (Q61_4 (List.map api_Sub.enc x1) (List.map api_Sub.enc x12) x13 x14) := by
  intro fu
  induction fu with
  | zero => intros; exact le_none
  | succ fu ih =>
    intro x1 x12 x13 x14
    refine Le.trans ?_ (le_of_eq ((lab_realC Cr61).trans (T61_4 _ _ _  x1 x12 x13 x14)).symm)
    unfold packet_subs_l4
    refine le_cond rfl (fun _ => ?_) (fun _ => ?_)
    · skip
      refine le_cond (by simp only [EN]) (fun _ => ?_) (fun _ => le_none)
      refine le_cond (by simp only [EN]) (fun _ => ?_) (fun _ => le_none)
      refine le_cond (by simp only [EN]) (fun _ => ?_) (fun _ => ?_)
      · skip
        exact le_ret (by first | rfl | (simp only [EN, packet_subs_out]; done) | (simp only [EN, packet_subs_out]; rfl))
      · skip
        exact ih x1 x12 x13 (IntKind.wrap .i64 (x14 + 1))
    · skip
      exact le_ret (by first | rfl | (simp only [EN, packet_subs_out]; done) | (simp only [EN, packet_subs_out]; rfl))
theorem packet_subs_ok (p0 : (List api_Sub)) (p1 : (List api_Sub)) : Le (Option.map packet_subs_out (packet_subs p0 p1)) (callW SE 61 [.d (.sl api_Sub.ks (List.map api_Sub.enc p0)), .d (.sl api_Sub.ks (List.map api_Sub.enc p1))] [] []) := by
  refine le_bodyC Cr61 ?_
  refine Le.trans ?_ (le_of_eq (T61 _ _ _  p0 p1).symm)
  unfold packet_subs
  refine le_cond (by simp only [EN]) (fun _ => ?_) (fun _ => ?_)
  · skip
    exact le_ret (by first | rfl | (simp only [EN, packet_subs_out]; done) | (simp only [EN, packet_subs_out]; rfl))
  · skip
    first | (simp only [EN]; exact packet_subs_l4_ok fuel p1 p0 (List.length p0 : Int) 0) | exact packet_subs_l4_ok fuel p1 p0 (List.length p0 : Int) 0
def C62 (Γ : Fun)  : CFun := bindC Γ
def R62_4 (C : CFun) (Λ2 J : Lam) (a0 : (List (List D))) (a1 : (List (List D))) (a2 : Int) (a3 : Int) : Res := lab SE C Λ2 J 62 0 [1, 1, 0, 1, 0] (stoOf [(1, .d (.sl [.str] a0)), (12, .d (.sl [.str] a1)), (13, .d (.int .i64 a2)), (14, .d (.int .i64 a3))] [] [] [] [])
theorem T62 (Γ : Fun)  (Λ2 J : Lam) (p0 : (List Str)) (p1 : (List Str)) : bodyC SE (C62 Γ) Λ2 J 62 [.d (.sl [.str] (List.map encS p0)), .d (.sl [.str] (List.map encS p1))] [] [] =
  cond ((List.length (List.map encS p0) : Int) != (List.length (List.map encS p1) : Int)) (
   (some (.ret [.d (.bool false)] [] []))) (
  R62_4 (C62 Γ) Λ2 J (List.map encS p1) (List.map encS p0) (List.length (List.map encS p0) : Int) 0) := by kernel_rfl
theorem T62_4 (Γ : Fun)  (Λ2 J : Lam) (x1 : (List Str)) (x12 : (List Str)) (x13 : Int) (x14 : Int) : labU SE (C62 Γ) Λ2 J 62 0 [1, 1, 0, 1, 0] (stoOf [(1, .d (.sl [.str] (List.map encS x1))), (12, .d (.sl [.str] (List.map encS x12))), (13, .d (.int .i64 x13)), (14, .d (.int .i64 x14))] [] [] [] []) =
  cond (decide (x14 < x13)) (
   cond (decide (0 ≤ x14) && decide (x14 < (List.length (List.map encS x12) : Int))) (
    cond (decide (0 ≤ x14) && decide (x14 < (List.length (List.map encS x1) : Int))) (
     cond (!((dStr (cellAt (elemAt (List.map encS x12) (Int.toNat x14)) 0)) == (dStr (cellAt (elemAt (List.map encS x1) (Int.toNat x14)) 0)))) (
      (some (.ret [.d (.bool false)] [] []))) (
     R62_4 (C62 Γ) Λ2 J (List.map encS x1) (List.map encS x12) x13 (IntKind.wrap .i64 (x14 + 1)))) none) none) (
  (some (.ret [.d (.bool true)] [] []))) := by kernel_rfl
abbrev X62 : CFun := C62 (callG SE good)
theorem Cr62 : C62 (callG SE good) = bindC (callG SE good) := by unfold C62; rfl
noncomputable abbrev Q62_4 (a0 : (List (List D))) (a1 : (List (List D))) (a2 : Int) (a3 : Int) : Res := R62_4 X62 (lam2 SE (callG SE good) (SE.hl 62) (SE.hr 62)) (J0 SE X62) a0 a1 a2 a3
theorem packet_texts_l4_ok : ∀ (fu : Nat) (x1 : (List Str)) (x12 : (List Str)) (x13 : Int) (x14 : Int), Le (Option.map packet_texts_out (packet_texts_l4 fu x1 x12 x13 x14)) (Q62_4 (List.map encS x1) (List.map encS x12) x13 x14) := by
  intro fu
  induction fu with
  | zero => intros; exact le_none
  | succ fu ih =>
    intro x1 x12 x13 x14
    refine Le.trans ?_ (le_of_eq ((lab_realC Cr62).trans (T62_4 _ _ _  x1 x12 x13 x14)).symm)
    unfold packet_texts_l4
    refine le_cond rfl (fun _ => ?_) (fun _ => ?_)
    · skip
      refine le_cond (by simp only [EN]) (fun _ => ?_) (fun _ => le_none)
      refine le_cond (by simp only [EN]) (fun _ => ?_) (fun _ => le_none)
      refine le_cond (by simp only [EN]) (fun _ => ?_) (fun _ => ?_)
      · skip
        exact le_ret (by first | rfl | (simp only [EN, packet_texts_out]; done) | (simp only [EN, packet_texts_out]; rfl))
      · skip
        exact ih x1 x12 x13 (IntKind.wrap .i64 (x14 + 1))
    · skip
      exact le_ret (by first | rfl | (simp only [EN, packet_texts_out]; done) | (simp only [EN, packet_texts_out]; rfl))
theorem packet_texts_ok (p0 : (List Str)) (p1 : (List Str)) : Le (Option.map packet_texts_out (packet_texts p0 p1)) (callW SE 62 [.d (.sl [.str] (List.map encS p0)), .d (.sl [.str] (List.map encS p1))] [] []) := by
  refine le_bodyC Cr62 ?_
  refine Le.trans ?_ (le_of_eq (T62 _ _ _  p0 p1).symm)
  unfold packet_texts
  refine le_cond (by simp only [EN]) (fun _ => ?_) (fun _ => ?_)
  · skip
    exact le_ret (by first | rfl | (simp only [EN, packet_texts_out]; done) | (simp only [EN, packet_texts_out]; rfl))
  · skip
    first | (simp only [EN]; exact packet_texts_l4_ok fuel p1 p0 (List.length p0 : Int) 0) | exact packet_texts_l4_ok fuel p1 p0 (List.length p0 : Int) 0
def C63 (Γ : Fun)  : CFun := bindC Γ
def R63_4 (C : CFun) (Λ2 J : Lam) (a0 : (List (List D))) (a1 : (List (List D))) (a2 : Int) (a3 : Int) : Res := lab SE C Λ2 J 63 0 [1, 1, 0, 1, 0] (stoOf [(1, .d (.sl [.int .i64] a0)), (12, .d (.sl [.int .i64] a1)), (13, .d (.int .i64 a2)), (14, .d (.int .i64 a3))] [] [] [] [])
theorem T63 (Γ : Fun)  (Λ2 J : Lam) (p0 : (List Int)) (p1 : (List Int)) : bodyC SE (C63 Γ) Λ2 J 63 [.d (.sl [.int .i64] (List.map (encI .i64) p0)), .d (.sl [.int .i64] (List.map (encI .i64) p1))] [] [] =
  cond ((List.length (List.map (encI .i64) p0) : Int) != (List.length (List.map (encI .i64) p1) : Int)) (
   (some (.ret [.d (.bool false)] [] []))) (
  R63_4 (C63 Γ) Λ2 J (List.map (encI .i64) p1) (List.map (encI .i64) p0) (List.length (List.map (encI .i64) p0) : Int) 0) := by kernel_rfl
theorem T63_4 (Γ : Fun)  (Λ2 J : Lam) (x1 : (List Int)) (x12 : (List Int)) (x13 : Int) (x14 : Int) : labU SE (C63 Γ) Λ2 J 63 0 [1, 1, 0, 1, 0] (stoOf [(1, .d (.sl [.int .i64] (List.map (encI .i64) x1))), (12, .d (.sl [.int .i64] (List.map (encI .i64) x12))), (13, .d (.int .i64 x13)), (14, .d (.int .i64 x14))] [] [] [] []) =
  cond (decide (x14 < x13)) (
   cond (decide (0 ≤ x14) && decide (x14 < (List.length (List.map (encI .i64) x12) : Int))) (
    cond (decide (0 ≤ x14) && decide (x14 < (List.length (List.map (encI .i64) x1) : Int))) (
     cond ((dInt (cellAt (elemAt (List.map (encI .i64) x12) (Int.toNat x14)) 0)) != (dInt (cellAt (elemAt (List.map (encI .i64) x1) (Int.toNat x14)) 0))) (
      (some (.ret [.d (.bool false)] [] []))) (
     R63_4 (C63 Γ) Λ2 J (List.map (encI .i64) x1) (List.map (encI .i64) x12) x13 (IntKind.wrap .i64 (x14 + 1)))) none) none) (
  (some (.ret [.d (.bool true)] [] []))) := by kernel_rfl
abbrev X63 : CFun := C63 (callG SE good)
theorem Cr63 : C63 (callG SE good) = bindC (callG SE good) := by unfold C63; rfl
noncomputable abbrev Q63_4 (a0 : (List (List D))) (a1 : (List (List D))) (a2 : Int) (a3 : Int) : Res := R63_4 X63 (lam2 SE (callG SE good) (SE.hl 63) (SE.hr 63)) (J0 SE X63) a0 a1 a2 a3
theorem packet_numbers_l4_ok : ∀ (fu : Nat) (x1 : (List Int)) (x12 : (List Int)) (x13 : Int) (x14 : Int), Le (Option.map packet_numbers_out (packet_numbers_l4 fu x1 x12 x13 x14)) (Q63_4 (List.map (encI .i64) x1) (List.map (encI .i64) x12) x13 x14) := by
  intro fu
  induction fu with
  | zero => intros; exact le_none
  | succ fu ih =>
    intro x1 x12 x13 x14
    refine Le.trans ?_ (le_of_eq ((lab_realC Cr63).trans (T63_4 _ _ _  x1 x12 x13 x14)).symm)
    unfold packet_numbers_l4
    refine le_cond rfl (fun _ => ?_) (fun _ => ?_)
    · skip
      refine le_cond (by simp only [EN]) (fun _ => ?_) (fun _ => le_none)
      refine le_cond (by simp only [EN]) (fun _ => ?_) (fun _ => le_none)
      refine le_cond (by simp only [EN]) (fun _ => ?_) (fun _ => ?_)
      · skip
        exact le_ret (by first | rfl | (simp only [EN, packet_numbers_out]; done) | (simp only [EN, packet_numbers_out]; rfl))
      · skip
        exact ih x1 x12 x13 (IntKind.wrap .i64 (x14 + 1))
    · skip
      exact le_ret (by first | rfl | (simp only [EN, packet_numbers_out]; done) | (simp only [EN, packet_numbers_out]; rfl))
theorem packet_numbers_ok (p0 : (List Int)) (p1 : (List Int)) : Le (Option.map packet_numbers_out (packet_numbers p0 p1)) (callW SE 63 [.d (.sl [.int .i64] (List.map (encI .i64) p0)), .d (.sl [.int .i64] (List.map (encI .i64) p1))] [] []) := by
  refine le_bodyC Cr63 ?_
  refine Le.trans ?_ (le_of_eq (T63 _ _ _  p0 p1).symm)
  unfold packet_numbers
  refine le_cond (by simp only [EN]) (fun _ => ?_) (fun _ => ?_)
  · skip
    exact le_ret (by first | rfl | (simp only [EN, packet_numbers_out]; done) | (simp only [EN, packet_numbers_out]; rfl))
  · skip
    first | (simp only [EN]; exact packet_numbers_l4_ok fuel p1 p0 (List.length p0 : Int) 0) | exact packet_numbers_l4_ok fuel p1 p0 (List.length p0 : Int) 0
def C40 (Γ : Fun) (γ59 : Gm (packet_plain)) (γ60 : Gm (Bool)) (γ61 : Gm (Bool)) (γ62 : Gm (Bool)) (γ63 : Gm (Bool)) : CFun := updC (updC (updC (updC (updC (bindC Γ) 59 packet_plainOf_out γ59) 60 message_Same_out γ60) 61 packet_subs_out γ61) 62 packet_texts_out γ62) 63 packet_numbers_out γ63
theorem T40 (Γ : Fun) (γ59 : Gm (packet_plain)) (γ60 : Gm (Bool)) (γ61 : Gm (Bool)) (γ62 : Gm (Bool)) (γ63 : Gm (Bool)) (Λ2 J : Lam) (p0 : api_Packet) (p1 : api_Packet) : bodyC SE (C40 Γ γ59 γ60 γ61 γ62 γ63) Λ2 J 40 [api_Packet.av p0, api_Packet.av p1] [] [] =
  γ59 [api_Packet.av p0] [] [] fun r0 =>
  γ59 [api_Packet.av p1] [] [] fun r1 =>
  cond ((r0.kind == r1.kind) && ((r0.id == r1.id) && ((r0.keep == r1.keep) && ((r0.expiry == r1.expiry) && ((r0.window == r1.window) && ((r0.code == r1.code) && ((r0.delay == r1.delay) && ((r0.dup == r1.dup) && ((r0.clean == r1.clean) && ((r0.present == r1.present) && ((r0.set_ == r1.set_) && ((r0.client == r1.client) && ((r0.user == r1.user) && true))))))))))))) (
   γ60 [api_Message.av p0.Message, api_Message.av p1.Message] [] [] fun r2 =>
   cond r2 (
    γ60 [api_Message.av p0.Will.Message, api_Message.av p1.Will.Message] [] [] fun r3 =>
    cond r3 (
     γ61 [.d (.sl api_Sub.ks (List.map api_Sub.enc p0.Subs)), .d (.sl api_Sub.ks (List.map api_Sub.enc p1.Subs))] [] [] fun r4 =>
     cond r4 (
      γ62 [.d (.sl [.str] (List.map encS p0.Filters)), .d (.sl [.str] (List.map encS p1.Filters))] [] [] fun r5 =>
      cond r5 (
       γ63 [.d (.sl [.int .i64] (List.map (encI .i64) p0.Codes)), .d (.sl [.int .i64] (List.map (encI .i64) p1.Codes))] [] [] fun r6 =>
       (some (.ret [.d (.bool r6)] [] []))) (
      (some (.ret [.d (.bool false)] [] [])))) (
     (some (.ret [.d (.bool false)] [] [])))) (
    (some (.ret [.d (.bool false)] [] [])))) (
   (some (.ret [.d (.bool false)] [] [])))) (
  (some (.ret [.d (.bool false)] [] []))) := by kernel_rfl
abbrev X40 : CFun := C40 (callG SE good) (callT SE good 59 packet_plainOf_out) (callT SE good 60 message_Same_out) (callT SE good 61 packet_subs_out) (callT SE good 62 packet_texts_out) (callT SE good 63 packet_numbers_out)
theorem Cr40 : C40 (callG SE good) (callT SE good 59 packet_plainOf_out) (callT SE good 60 message_Same_out) (callT SE good 61 packet_subs_out) (callT SE good 62 packet_texts_out) (callT SE good 63 packet_numbers_out) = bindC (callG SE good) := by unfold C40; rw [updC_real (fun _ h => h), updC_real (fun _ h => h), updC_real (fun _ h => h), updC_real (fun _ h => h), updC_real (fun _ h => h)]
theorem packet_Same_ok (p0 : api_Packet) (p1 : api_Packet) : Le (Option.map packet_Same_out (packet_Same p0 p1)) (callW SE 40 [api_Packet.av p0, api_Packet.av p1] [] []) := by
  refine le_bodyC Cr40 ?_
  refine Le.trans ?_ (le_of_eq (T40 _ _ _ _ _ _ _ _  p0 p1).symm)
  unfold packet_Same
  refine le_call (good := good) (fun y => ⟨y, rfl⟩) packet_plainOf_inj (packet_plainOf_ok p0) (fun r0 _ => ?_)
  refine le_call (good := good) (fun y => ⟨y, rfl⟩) packet_plainOf_inj (packet_plainOf_ok p1) (fun r1 _ => ?_)
  refine le_cond rfl (fun _ => ?_) (fun _ => ?_)
  · skip
    refine le_call (good := good) (fun y => ⟨y, rfl⟩) message_Same_inj (message_Same_ok p0.Message p1.Message) (fun r2 _ => ?_)
    refine le_cond rfl (fun _ => ?_) (fun _ => ?_)
    · skip
      refine le_call (good := good) (fun y => ⟨y, rfl⟩) message_Same_inj (message_Same_ok p0.Will.Message p1.Will.Message) (fun r3 _ => ?_)
      refine le_cond rfl (fun _ => ?_) (fun _ => ?_)
      · skip
        refine le_call (good := good) (fun y => ⟨y, rfl⟩) packet_subs_inj (packet_subs_ok p0.Subs p1.Subs) (fun r4 _ => ?_)
        refine le_cond rfl (fun _ => ?_) (fun _ => ?_)
        · skip
          refine le_call (good := good) (fun y => ⟨y, rfl⟩) packet_texts_inj (packet_texts_ok p0.Filters p1.Filters) (fun r5 _ => ?_)
          refine le_cond rfl (fun _ => ?_) (fun _ => ?_)
          · skip
            refine le_call (good := good) (fun y => ⟨y, rfl⟩) packet_numbers_inj (packet_numbers_ok p0.Codes p1.Codes) (fun r6 _ => ?_)
            exact le_ret (by first | rfl | (simp only [EN, packet_Same_out]; done) | (simp only [EN, packet_Same_out]; rfl))
          · skip
            exact le_ret (by first | rfl | (simp only [EN, packet_Same_out]; done) | (simp only [EN, packet_Same_out]; rfl))
        · skip
          exact le_ret (by first | rfl | (simp only [EN, packet_Same_out]; done) | (simp only [EN, packet_Same_out]; rfl))
      · skip
        exact le_ret (by first | rfl | (simp only [EN, packet_Same_out]; done) | (simp only [EN, packet_Same_out]; rfl))
    · skip
      exact le_ret (by first | rfl | (simp only [EN, packet_Same_out]; done) | (simp only [EN, packet_Same_out]; rfl))
  · skip
    exact le_ret (by first | rfl | (simp only [EN, packet_Same_out]; done) | (simp only [EN, packet_Same_out]; rfl))
def C36 (Γ : Fun)  : CFun := bindC Γ
def R36_7 (C : CFun) (Λ2 J : Lam) (a0 : Int) (a1 : Int) (a2 : Bool) (a3 : Str) (a4 : Nat) : Res := lab SE C Λ2 J 36 0 [1, 1, 0, 1, 0, 0, 1, 1, 0, 1, 1, 0] (stoOf [(3, .d (.int .i64 a0)), (4, .d (.int .i32 a1)), (5, .d (.bool a2)), (15, .it 4000)] [] [] [(4000, (a3, a4))] [])
def R36_4 (C : CFun) (Λ2 J : Lam) (a0 : Str) (a1 : Nat) : Res := lab SE C Λ2 J 36 0 [1, 1, 0, 1, 0] (stoOf [(15, .it 4000)] [] [] [(4000, (a0, a1))] [])
def R36_3 (C : CFun) (Λ2 J : Lam) (a0 : Str) : Res := lab SE C Λ2 J 36 0 [1, 1, 0, 0] (stoOf [(0, .d (.str a0))] [] [] [] [])
theorem T36 (Γ : Fun)  (Λ2 J : Lam) (p0 : Str) : bodyC SE (C36 Γ) Λ2 J 36 [.d (.str p0)] [] [] =
  cond (decide ((List.length p0 : Int) < 1)) (
   (some (.ret [.d (.bool false)] [] []))) (
  cond (decide ((List.length p0 : Int) > 16)) (
   (some (.ret [.d (.bool false)] [] []))) (
  R36_3 (C36 Γ) Λ2 J p0)) := by kernel_rfl
theorem T36_7 (Γ : Fun)  (Λ2 J : Lam) (x3 : Int) (x4 : Int) (x5 : Bool) (s4000 : Str) (i4000 : Nat) : labU SE (C36 Γ) Λ2 J 36 0 [1, 1, 0, 1, 0, 0, 1, 1, 0, 1, 1, 0] (stoOf [(3, .d (.int .i64 x3)), (4, .d (.int .i32 x4)), (5, .d (.bool x5)), (15, .it 4000)] [] [] [(4000, (s4000, i4000))] []) =
  cond (!x5) (
   cond (x3 == 0) (
    (some (.ret [.d (.bool false)] [] []))) (
   cond (x4 != 45) (
    cond (decide (x4 < 48)) (
     (some (.ret [.d (.bool false)] [] []))) (
    cond (decide (x4 > 57)) (
     (some (.ret [.d (.bool false)] [] []))) (
    R36_4 (C36 Γ) Λ2 J s4000 i4000))) (
   R36_4 (C36 Γ) Λ2 J s4000 i4000))) (
  R36_4 (C36 Γ) Λ2 J s4000 i4000) := by kernel_rfl
theorem T36_4 (Γ : Fun)  (Λ2 J : Lam) (s4000 : Str) (i4000 : Nat) : labU SE (C36 Γ) Λ2 J 36 0 [1, 1, 0, 1, 0] (stoOf [(15, .it 4000)] [] [] [(4000, (s4000, i4000))] []) =
  cond (decide (i4000 < List.length s4000)) (
   cond (decide (((dec s4000 i4000).1 : Int) ≥ 97)) (
    R36_7 (C36 Γ) Λ2 J (i4000 : Int) ((dec s4000 i4000).1 : Int) (decide (((dec s4000 i4000).1 : Int) ≤ 122)) s4000 (i4000 + (dec s4000 i4000).2)) (
   R36_7 (C36 Γ) Λ2 J (i4000 : Int) ((dec s4000 i4000).1 : Int) false s4000 (i4000 + (dec s4000 i4000).2))) (
  (some (.ret [.d (.bool true)] [] []))) := by kernel_rfl
theorem T36_3 (Γ : Fun)  (Λ2 J : Lam) (x0 : Str) : labU SE (C36 Γ) Λ2 J 36 0 [1, 1, 0, 0] (stoOf [(0, .d (.str x0))] [] [] [] []) =
  R36_4 (C36 Γ) Λ2 J x0 0 := by kernel_rfl
abbrev X36 : CFun := C36 (callG SE good)
theorem Cr36 : C36 (callG SE good) = bindC (callG SE good) := by unfold C36; rfl
noncomputable abbrev Q36_7 (a0 : Int) (a1 : Int) (a2 : Bool) (a3 : Str) (a4 : Nat) : Res := R36_7 X36 (lam2 SE (callG SE good) (SE.hl 36) (SE.hr 36)) (J0 SE X36) a0 a1 a2 a3 a4
noncomputable abbrev Q36_4 (a0 : Str) (a1 : Nat) : Res := R36_4 X36 (lam2 SE (callG SE good) (SE.hl 36) (SE.hr 36)) (J0 SE X36) a0 a1
noncomputable abbrev Q36_3 (a0 : Str) : Res := R36_3 X36 (lam2 SE (callG SE good) (SE.hl 36) (SE.hr 36)) (J0 SE X36) a0
theorem topic_Name_j7_ok (k4 : Str → Nat → Option (Bool)) (hk4 : ∀ (s4000 : Str) (i4000 : Nat), Le (Option.map topic_Name_out (k4 s4000 i4000)) (Q36_4 s4000 i4000)) (x3 : Int) (x4 : Int) (x5 : Bool) (s4000 : Str) (i4000 : Nat) : Le (Option.map topic_Name_out (topic_Name_j7 k4 x3 x4 x5 s4000 i4000)) (Q36_7 x3 x4 x5 s4000 i4000) := by
  refine Le.trans ?_ (le_of_eq ((lab_realC Cr36).trans (T36_7 _ _ _  x3 x4 x5 s4000 i4000)).symm)
  unfold topic_Name_j7
  refine le_cond rfl (fun _ => ?_) (fun _ => ?_)
  · skip
    refine le_cond rfl (fun _ => ?_) (fun _ => ?_)
    · skip
      exact le_ret (by first | rfl | (simp only [EN, topic_Name_out]; done) | (simp only [EN, topic_Name_out]; rfl))
    · skip
      refine le_cond rfl (fun _ => ?_) (fun _ => ?_)
      · skip
        refine le_cond rfl (fun _ => ?_) (fun _ => ?_)
        · skip
          exact le_ret (by first | rfl | (simp only [EN, topic_Name_out]; done) | (simp only [EN, topic_Name_out]; rfl))
        · skip
          refine le_cond rfl (fun _ => ?_) (fun _ => ?_)
          · skip
            exact le_ret (by first | rfl | (simp only [EN, topic_Name_out]; done) | (simp only [EN, topic_Name_out]; rfl))
          · skip
            exact hk4 s4000 i4000
      · skip
        exact hk4 s4000 i4000
  · skip
    exact hk4 s4000 i4000
theorem topic_Name_l4_ok : ∀ (fu : Nat) (s4000 : Str) (i4000 : Nat), Le (Option.map topic_Name_out (topic_Name_l4 fu s4000 i4000)) (Q36_4 s4000 i4000) := by
  intro fu
  induction fu with
  | zero => intros; exact le_none
  | succ fu ih =>
    intro s4000 i4000
    refine Le.trans ?_ (le_of_eq ((lab_realC Cr36).trans (T36_4 _ _ _  s4000 i4000)).symm)
    unfold topic_Name_l4
    refine le_cond rfl (fun _ => ?_) (fun _ => ?_)
    · skip
      refine le_cond rfl (fun _ => ?_) (fun _ => ?_)
      · skip
        exact topic_Name_j7_ok _ (ih) (i4000 : Int) ((dec s4000 i4000).1 : Int) (decide (((dec s4000 i4000).1 : Int) ≤ 122)) s4000 (i4000 + (dec s4000 i4000).2)
      · skip
        exact topic_Name_j7_ok _ (ih) (i4000 : Int) ((dec s4000 i4000).1 : Int) false s4000 (i4000 + (dec s4000 i4000).2)
    · skip
      exact le_ret (by first | rfl | (simp only [EN, topic_Name_out]; done) | (simp only [EN, topic_Name_out]; rfl))
theorem topic_Name_j3_ok (x0 : Str) : Le (Option.map topic_Name_out (topic_Name_j3 x0)) (Q36_3 x0) := by
  refine Le.trans ?_ (le_of_eq ((lab_realC Cr36).trans (T36_3 _ _ _  x0)).symm)
  unfold topic_Name_j3
  exact topic_Name_l4_ok fuel x0 0
theorem topic_Name_ok (p0 : Str) : Le (Option.map topic_Name_out (topic_Name p0)) (callW SE 36 [.d (.str p0)] [] []) := by
  refine le_bodyC Cr36 ?_
  refine Le.trans ?_ (le_of_eq (T36 _ _ _  p0).symm)
  unfold topic_Name
  refine le_cond rfl (fun _ => ?_) (fun _ => ?_)
  · skip
    exact le_ret (by first | rfl | (simp only [EN, topic_Name_out]; done) | (simp only [EN, topic_Name_out]; rfl))
  · skip
    refine le_cond rfl (fun _ => ?_) (fun _ => ?_)
    · skip
      exact le_ret (by first | rfl | (simp only [EN, topic_Name_out]; done) | (simp only [EN, topic_Name_out]; rfl))
    · skip
      exact topic_Name_j3_ok p0
def C83 (Γ : Fun)  : CFun := bindC Γ
def R83_5 (C : CFun) (Λ2 J : Lam) (a0 : Int) (a1 : Str) (a2 : Nat) : Res := lab SE C Λ2 J 83 0 [1, 1, 1, 0, 1, 0] (stoOf [(3, .d (.int .i64 a0)), (15, .it 4000)] [] [] [(4000, (a1, a2))] [])
def R83_3 (C : CFun) (Λ2 J : Lam) (a0 : Str) : Res := lab SE C Λ2 J 83 0 [1, 1, 0] (stoOf [(0, .d (.str a0))] [] [] [] [])
theorem T83 (Γ : Fun)  (Λ2 J : Lam) (p0 : Str) : bodyC SE (C83 Γ) Λ2 J 83 [.d (.str p0)] [] [] =
  cond (decide ((List.length p0 : Int) < 1)) (
   (some (.ret [.d (.bool false)] [] []))) (
  cond (decide ((List.length p0 : Int) > 64)) (
   (some (.ret [.d (.bool false)] [] []))) (
  R83_3 (C83 Γ) Λ2 J p0)) := by kernel_rfl
theorem T83_5 (Γ : Fun)  (Λ2 J : Lam) (x3 : Int) (s4000 : Str) (i4000 : Nat) : labU SE (C83 Γ) Λ2 J 83 0 [1, 1, 1, 0, 1, 0] (stoOf [(3, .d (.int .i64 x3)), (15, .it 4000)] [] [] [(4000, (s4000, i4000))] []) =
  cond (decide (i4000 < List.length s4000)) (
   cond (((dec s4000 i4000).1 : Int) == 0) (
    (some (.ret [.d (.bool false)] [] []))) (
   cond (((dec s4000 i4000).1 : Int) == 47) (
    R83_5 (C83 Γ) Λ2 J (IntKind.wrap .i64 (x3 + 1)) s4000 (i4000 + (dec s4000 i4000).2)) (
   R83_5 (C83 Γ) Λ2 J x3 s4000 (i4000 + (dec s4000 i4000).2)))) (
  (some (.ret [.d (.bool (decide (x3 ≤ 8)))] [] []))) := by kernel_rfl
theorem T83_3 (Γ : Fun)  (Λ2 J : Lam) (x0 : Str) : labU SE (C83 Γ) Λ2 J 83 0 [1, 1, 0] (stoOf [(0, .d (.str x0))] [] [] [] []) =
  R83_5 (C83 Γ) Λ2 J 1 x0 0 := by kernel_rfl
abbrev X83 : CFun := C83 (callG SE good)
theorem Cr83 : C83 (callG SE good) = bindC (callG SE good) := by unfold C83; rfl
noncomputable abbrev Q83_5 (a0 : Int) (a1 : Str) (a2 : Nat) : Res := R83_5 X83 (lam2 SE (callG SE good) (SE.hl 83) (SE.hr 83)) (J0 SE X83) a0 a1 a2
noncomputable abbrev Q83_3 (a0 : Str) : Res := R83_3 X83 (lam2 SE (callG SE good) (SE.hl 83) (SE.hr 83)) (J0 SE X83) a0
theorem topic_sized_l5_ok : ∀ (fu : Nat) (x3 : Int) (s4000 : Str) (i4000 : Nat), Le (Option.map topic_sized_out (topic_sized_l5 fu x3 s4000 i4000)) (Q83_5 x3 s4000 i4000) := by
  intro fu
  induction fu with
  | zero => intros; exact le_none
  | succ fu ih =>
    intro x3 s4000 i4000
    refine Le.trans ?_ (le_of_eq ((lab_realC Cr83).trans (T83_5 _ _ _  x3 s4000 i4000)).symm)
    unfold topic_sized_l5
    refine le_cond rfl (fun _ => ?_) (fun _ => ?_)
    · skip
      refine le_cond rfl (fun _ => ?_) (fun _ => ?_)
      · skip
        exact le_ret (by first | rfl | (simp only [EN, topic_sized_out]; done) | (simp only [EN, topic_sized_out]; rfl))
      · skip
        refine le_cond rfl (fun _ => ?_) (fun _ => ?_)
        · skip
          exact ih (IntKind.wrap .i64 (x3 + 1)) s4000 (i4000 + (dec s4000 i4000).2)
        · skip
          exact ih x3 s4000 (i4000 + (dec s4000 i4000).2)
    · skip
      exact le_ret (by first | rfl | (simp only [EN, topic_sized_out]; done) | (simp only [EN, topic_sized_out]; rfl))
theorem topic_sized_j3_ok (x0 : Str) : Le (Option.map topic_sized_out (topic_sized_j3 x0)) (Q83_3 x0) := by
  refine Le.trans ?_ (le_of_eq ((lab_realC Cr83).trans (T83_3 _ _ _  x0)).symm)
  unfold topic_sized_j3
  exact topic_sized_l5_ok fuel 1 x0 0
theorem topic_sized_ok (p0 : Str) : Le (Option.map topic_sized_out (topic_sized p0)) (callW SE 83 [.d (.str p0)] [] []) := by
  refine le_bodyC Cr83 ?_
  refine Le.trans ?_ (le_of_eq (T83 _ _ _  p0).symm)
  unfold topic_sized
  refine le_cond rfl (fun _ => ?_) (fun _ => ?_)
  · skip
    exact le_ret (by first | rfl | (simp only [EN, topic_sized_out]; done) | (simp only [EN, topic_sized_out]; rfl))
  · skip
    refine le_cond rfl (fun _ => ?_) (fun _ => ?_)
    · skip
      exact le_ret (by first | rfl | (simp only [EN, topic_sized_out]; done) | (simp only [EN, topic_sized_out]; rfl))
    · skip
      exact topic_sized_j3_ok p0
def C73 (Γ : Fun) (γ83 : Gm (Bool)) : CFun := updC (bindC Γ) 83 topic_sized_out γ83
def R73_4 (C : CFun) (Λ2 J : Lam) (a0 : Str) (a1 : Nat) : Res := lab SE C Λ2 J 73 0 [1, 1, 0, 1, 0] (stoOf [(9, .it 4000)] [] [] [(4000, (a0, a1))] [])
theorem T73 (Γ : Fun) (γ83 : Gm (Bool)) (Λ2 J : Lam) (p0 : Str) : bodyC SE (C73 Γ γ83) Λ2 J 73 [.d (.str p0)] [] [] =
  γ83 [.d (.str p0)] [] [] fun r0 =>
  cond (!r0) (
   (some (.ret [.d (.bool false)] [] []))) (
  R73_4 (C73 Γ γ83) Λ2 J p0 0) := by kernel_rfl
theorem T73_4 (Γ : Fun) (γ83 : Gm (Bool)) (Λ2 J : Lam) (s4000 : Str) (i4000 : Nat) : labU SE (C73 Γ γ83) Λ2 J 73 0 [1, 1, 0, 1, 0] (stoOf [(9, .it 4000)] [] [] [(4000, (s4000, i4000))] []) =
  cond (decide (i4000 < List.length s4000)) (
   cond (((dec s4000 i4000).1 : Int) == 43) (
    (some (.ret [.d (.bool false)] [] []))) (
   cond (((dec s4000 i4000).1 : Int) == 35) (
    (some (.ret [.d (.bool false)] [] []))) (
   R73_4 (C73 Γ γ83) Λ2 J s4000 (i4000 + (dec s4000 i4000).2)))) (
  (some (.ret [.d (.bool true)] [] []))) := by kernel_rfl
abbrev X73 : CFun := C73 (callG SE good) (callT SE good 83 topic_sized_out)
theorem Cr73 : C73 (callG SE good) (callT SE good 83 topic_sized_out) = bindC (callG SE good) := by unfold C73; rw [updC_real (fun _ h => h)]
noncomputable abbrev Q73_4 (a0 : Str) (a1 : Nat) : Res := R73_4 X73 (lam2 SE (callG SE good) (SE.hl 73) (SE.hr 73)) (J0 SE X73) a0 a1
theorem topic_Valid_l4_ok : ∀ (fu : Nat) (s4000 : Str) (i4000 : Nat), Le (Option.map topic_Valid_out (topic_Valid_l4 fu s4000 i4000)) (Q73_4 s4000 i4000) := by
  intro fu
  induction fu with
  | zero => intros; exact le_none
  | succ fu ih =>
    intro s4000 i4000
    refine Le.trans ?_ (le_of_eq ((lab_realC Cr73).trans (T73_4 _ _ _ _  s4000 i4000)).symm)
    unfold topic_Valid_l4
    refine le_cond rfl (fun _ => ?_) (fun _ => ?_)
    · skip
      refine le_cond rfl (fun _ => ?_) (fun _ => ?_)
      · skip
        exact le_ret (by first | rfl | (simp only [EN, topic_Valid_out]; done) | (simp only [EN, topic_Valid_out]; rfl))
      · skip
        refine le_cond rfl (fun _ => ?_) (fun _ => ?_)
        · skip
          exact le_ret (by first | rfl | (simp only [EN, topic_Valid_out]; done) | (simp only [EN, topic_Valid_out]; rfl))
        · skip
          exact ih s4000 (i4000 + (dec s4000 i4000).2)
    · skip
      exact le_ret (by first | rfl | (simp only [EN, topic_Valid_out]; done) | (simp only [EN, topic_Valid_out]; rfl))
theorem topic_Valid_ok (p0 : Str) : Le (Option.map topic_Valid_out (topic_Valid p0)) (callW SE 73 [.d (.str p0)] [] []) := by
  refine le_bodyC Cr73 ?_
  refine Le.trans ?_ (le_of_eq (T73 _ _ _ _  p0).symm)
  unfold topic_Valid
  refine le_call (good := good) (fun y => ⟨y, rfl⟩) topic_sized_inj (topic_sized_ok p0) (fun r0 _ => ?_)
  refine le_cond rfl (fun _ => ?_) (fun _ => ?_)
  · skip
    exact le_ret (by first | rfl | (simp only [EN, topic_Valid_out]; done) | (simp only [EN, topic_Valid_out]; rfl))
  · skip
    exact topic_Valid_l4_ok fuel p0 0
def C74 (Γ : Fun)  : CFun := bindC Γ
theorem T74 (Γ : Fun)  (Λ2 J : Lam) (p0 : Int) (p1 : Int) : bodyC SE (C74 Γ) Λ2 J 74 [.d (.int .i64 p0), .d (.int .i64 p1)] [] [] =
  cond (decide (p0 ≥ 0)) (
   (some (.ret [.d (.bool (decide (p0 ≤ p1)))] [] []))) (
  (some (.ret [.d (.bool false)] [] []))) := by kernel_rfl
abbrev X74 : CFun := C74 (callG SE good)
theorem Cr74 : C74 (callG SE good) = bindC (callG SE good) := by unfold C74; rfl
theorem message_is_ok (p0 : Int) (p1 : Int) : Le (Option.map message_is_out (message_is p0 p1)) (callW SE 74 [.d (.int .i64 p0), .d (.int .i64 p1)] [] []) := by
  refine le_bodyC Cr74 ?_
  refine Le.trans ?_ (le_of_eq (T74 _ _ _  p0 p1).symm)
  unfold message_is
  refine le_cond rfl (fun _ => ?_) (fun _ => ?_)
  · skip
    exact le_ret (by first | rfl | (simp only [EN, message_is_out]; done) | (simp only [EN, message_is_out]; rfl))
  · skip
    exact le_ret (by first | rfl | (simp only [EN, message_is_out]; done) | (simp only [EN, message_is_out]; rfl))
def C84 (Γ : Fun)  : CFun := bindC Γ
def R84_4 (C : CFun) (Λ2 J : Lam) (a0 : Str) (a1 : Int) : Res := lab SE C Λ2 J 84 0 [1, 1, 0, 1, 0] (stoOf [(0, .d (.str a0)), (3, .d (.int .i64 a1))] [] [] [] [])
def R84_3 (C : CFun) (Λ2 J : Lam) (a0 : Str) : Res := lab SE C Λ2 J 84 0 [1, 1, 0, 0] (stoOf [(0, .d (.str a0))] [] [] [] [])
theorem T84 (Γ : Fun)  (Λ2 J : Lam) (p0 : Str) : bodyC SE (C84 Γ) Λ2 J 84 [.d (.str p0)] [] [] =
  cond (decide ((List.length p0 : Int) < 1)) (
   (some (.ret [.d (.bool false)] [] []))) (
  cond (decide ((List.length p0 : Int) > 16)) (
   (some (.ret [.d (.bool false)] [] []))) (
  R84_3 (C84 Γ) Λ2 J p0)) := by kernel_rfl
theorem T84_4 (Γ : Fun)  (Λ2 J : Lam) (x0 : Str) (x3 : Int) : labU SE (C84 Γ) Λ2 J 84 0 [1, 1, 0, 1, 0] (stoOf [(0, .d (.str x0)), (3, .d (.int .i64 x3))] [] [] [] []) =
  cond (decide (x3 < (List.length x0 : Int))) (
   cond (decide (0 ≤ x3) && decide (x3 < (List.length x0 : Int))) (
    cond (decide ((UInt8.toNat (List.getD x0 (Int.toNat x3) 0) : Int) < 97)) (
     cond (decide ((UInt8.toNat (List.getD x0 (Int.toNat x3) 0) : Int) < 48)) (
      cond ((UInt8.toNat (List.getD x0 (Int.toNat x3) 0) : Int) != 45) (
       (some (.ret [.d (.bool false)] [] []))) (
      R84_4 (C84 Γ) Λ2 J x0 (IntKind.wrap .i64 (x3 + 1)))) (
     cond (decide ((UInt8.toNat (List.getD x0 (Int.toNat x3) 0) : Int) > 57)) (
      cond ((UInt8.toNat (List.getD x0 (Int.toNat x3) 0) : Int) != 45) (
       (some (.ret [.d (.bool false)] [] []))) (
      R84_4 (C84 Γ) Λ2 J x0 (IntKind.wrap .i64 (x3 + 1)))) (
     R84_4 (C84 Γ) Λ2 J x0 (IntKind.wrap .i64 (x3 + 1))))) (
    cond (decide ((UInt8.toNat (List.getD x0 (Int.toNat x3) 0) : Int) > 122)) (
     cond (decide ((UInt8.toNat (List.getD x0 (Int.toNat x3) 0) : Int) < 48)) (
      cond ((UInt8.toNat (List.getD x0 (Int.toNat x3) 0) : Int) != 45) (
       (some (.ret [.d (.bool false)] [] []))) (
      R84_4 (C84 Γ) Λ2 J x0 (IntKind.wrap .i64 (x3 + 1)))) (
     cond (decide ((UInt8.toNat (List.getD x0 (Int.toNat x3) 0) : Int) > 57)) (
      cond ((UInt8.toNat (List.getD x0 (Int.toNat x3) 0) : Int) != 45) (
       (some (.ret [.d (.bool false)] [] []))) (
      R84_4 (C84 Γ) Λ2 J x0 (IntKind.wrap .i64 (x3 + 1)))) (
     R84_4 (C84 Γ) Λ2 J x0 (IntKind.wrap .i64 (x3 + 1))))) (
    R84_4 (C84 Γ) Λ2 J x0 (IntKind.wrap .i64 (x3 + 1))))) none) (
  (some (.ret [.d (.bool true)] [] []))) := by kernel_rfl
theorem T84_3 (Γ : Fun)  (Λ2 J : Lam) (x0 : Str) : labU SE (C84 Γ) Λ2 J 84 0 [1, 1, 0, 0] (stoOf [(0, .d (.str x0))] [] [] [] []) =
  R84_4 (C84 Γ) Λ2 J x0 0 := by kernel_rfl
abbrev X84 : CFun := C84 (callG SE good)
theorem Cr84 : C84 (callG SE good) = bindC (callG SE good) := by unfold C84; rfl
noncomputable abbrev Q84_4 (a0 : Str) (a1 : Int) : Res := R84_4 X84 (lam2 SE (callG SE good) (SE.hl 84) (SE.hr 84)) (J0 SE X84) a0 a1
noncomputable abbrev Q84_3 (a0 : Str) : Res := R84_3 X84 (lam2 SE (callG SE good) (SE.hl 84) (SE.hr 84)) (J0 SE X84) a0
theorem message_key_l4_ok : ∀ (fu : Nat) (x0 : Str) (x3 : Int), Le (Option.map message_key_out (message_key_l4 fu x0 x3)) (Q84_4 x0 x3) := by
  intro fu
  induction fu with
  | zero => intros; exact le_none
  | succ fu ih =>
    intro x0 x3
    refine Le.trans ?_ (le_of_eq ((lab_realC Cr84).trans (T84_4 _ _ _  x0 x3)).symm)
    unfold message_key_l4
    refine le_cond rfl (fun _ => ?_) (fun _ => ?_)
    · skip
      refine le_cond rfl (fun _ => ?_) (fun _ => le_none)
      refine le_cond rfl (fun _ => ?_) (fun _ => ?_)
      · skip
        refine le_cond rfl (fun _ => ?_) (fun _ => ?_)
        · skip
          refine le_cond rfl (fun _ => ?_) (fun _ => ?_)
          · skip
            exact le_ret (by first | rfl | (simp only [EN, message_key_out]; done) | (simp only [EN, message_key_out]; rfl))
          · skip
            exact ih x0 (IntKind.wrap .i64 (x3 + 1))
        · skip
          refine le_cond rfl (fun _ => ?_) (fun _ => ?_)
          · skip
            refine le_cond rfl (fun _ => ?_) (fun _ => ?_)
            · skip
              exact le_ret (by first | rfl | (simp only [EN, message_key_out]; done) | (simp only [EN, message_key_out]; rfl))
            · skip
              exact ih x0 (IntKind.wrap .i64 (x3 + 1))
          · skip
            exact ih x0 (IntKind.wrap .i64 (x3 + 1))
      · skip
        refine le_cond rfl (fun _ => ?_) (fun _ => ?_)
        · skip
          refine le_cond rfl (fun _ => ?_) (fun _ => ?_)
          · skip
            refine le_cond rfl (fun _ => ?_) (fun _ => ?_)
            · skip
              exact le_ret (by first | rfl | (simp only [EN, message_key_out]; done) | (simp only [EN, message_key_out]; rfl))
            · skip
              exact ih x0 (IntKind.wrap .i64 (x3 + 1))
          · skip
            refine le_cond rfl (fun _ => ?_) (fun _ => ?_)
            · skip
              refine le_cond rfl (fun _ => ?_) (fun _ => ?_)
              · skip
                exact le_ret (by first | rfl | (simp only [EN, message_key_out]; done) | (simp only [EN, message_key_out]; rfl))
              · skip
                exact ih x0 (IntKind.wrap .i64 (x3 + 1))
            · skip
              exact ih x0 (IntKind.wrap .i64 (x3 + 1))
        · skip
          exact ih x0 (IntKind.wrap .i64 (x3 + 1))
    · skip
      exact le_ret (by first | rfl | (simp only [EN, message_key_out]; done) | (simp only [EN, message_key_out]; rfl))
theorem message_key_j3_ok (x0 : Str) : Le (Option.map message_key_out (message_key_j3 x0)) (Q84_3 x0) := by
  refine Le.trans ?_ (le_of_eq ((lab_realC Cr84).trans (T84_3 _ _ _  x0)).symm)
  unfold message_key_j3
  exact message_key_l4_ok fuel x0 0
theorem message_key_ok (p0 : Str) : Le (Option.map message_key_out (message_key p0)) (callW SE 84 [.d (.str p0)] [] []) := by
  refine le_bodyC Cr84 ?_
  refine Le.trans ?_ (le_of_eq (T84 _ _ _  p0).symm)
  unfold message_key
  refine le_cond rfl (fun _ => ?_) (fun _ => ?_)
  · skip
    exact le_ret (by first | rfl | (simp only [EN, message_key_out]; done) | (simp only [EN, message_key_out]; rfl))
  · skip
    refine le_cond rfl (fun _ => ?_) (fun _ => ?_)
    · skip
      exact le_ret (by first | rfl | (simp only [EN, message_key_out]; done) | (simp only [EN, message_key_out]; rfl))
    · skip
      exact message_key_j3_ok p0
def C75 (Γ : Fun) (γ84 : Gm (Bool)) : CFun := updC (bindC Γ) 84 message_key_out γ84
def R75_4 (C : CFun) (Λ2 J : Lam) (a0 : (List (List D))) (a1 : (List (List D))) (a2 : Int) (a3 : Int) : Res := lab SE C Λ2 J 75 0 [1, 1, 0, 1, 0] (stoOf [(0, .d (.sl api_Prop.ks a0)), (8, .d (.sl api_Prop.ks a1)), (9, .d (.int .i64 a2)), (10, .d (.int .i64 a3))] [] [] [] [])
theorem T75 (Γ : Fun) (γ84 : Gm (Bool)) (Λ2 J : Lam) (p0 : (List api_Prop)) : bodyC SE (C75 Γ γ84) Λ2 J 75 [.d (.sl api_Prop.ks (List.map api_Prop.enc p0))] [] [] =
  cond (decide ((List.length (List.map api_Prop.enc p0) : Int) > 8)) (
   (some (.ret [.d (.int .i64 5)] [] []))) (
  R75_4 (C75 Γ γ84) Λ2 J (List.map api_Prop.enc p0) (List.map api_Prop.enc p0) (List.length (List.map api_Prop.enc p0) : Int) 0) := by kernel_rfl
theorem T75_4 (Γ : Fun) (γ84 : Gm (Bool)) (Λ2 J : Lam) (x0 : (List api_Prop)) (x8 : (List api_Prop)) (x9 : Int) (x10 : Int) : labU SE (C75 Γ γ84) Λ2 J 75 0 [1, 1, 0, 1, 0] (stoOf [(0, .d (.sl api_Prop.ks (List.map api_Prop.enc x0))), (8, .d (.sl api_Prop.ks (List.map api_Prop.enc x8))), (9, .d (.int .i64 x9)), (10, .d (.int .i64 x10))] [] [] [] []) =
  cond (decide (x10 < x9)) (
   cond (decide (0 ≤ x10) && decide (x10 < (List.length (List.map api_Prop.enc x8) : Int))) (
    γ84 [.d (.str (dStr (cellAt (elemAt (List.map api_Prop.enc x8) (Int.toNat x10)) 0)))] [] [] fun r0 =>
    cond (!r0) (
     (some (.ret [.d (.int .i64 16)] [] []))) (
    cond (decide ((List.length (dStr (cellAt (elemAt (List.map api_Prop.enc x8) (Int.toNat x10)) 1)) : Int) > 160)) (
     (some (.ret [.d (.int .i64 5)] [] []))) (
    cond (decide (x10 > 0)) (
     cond (decide (0 ≤ (IntKind.wrap .i64 (x10 - 1))) && decide ((IntKind.wrap .i64 (x10 - 1)) < (List.length (List.map api_Prop.enc x0) : Int))) (
      cond (Op.bytesLess (dStr (cellAt (elemAt (List.map api_Prop.enc x8) (Int.toNat x10)) 0)) (dStr (cellAt (elemAt (List.map api_Prop.enc x0) (Int.toNat (IntKind.wrap .i64 (x10 - 1)))) 0)) || (dStr (cellAt (elemAt (List.map api_Prop.enc x8) (Int.toNat x10)) 0)) == (dStr (cellAt (elemAt (List.map api_Prop.enc x0) (Int.toNat (IntKind.wrap .i64 (x10 - 1)))) 0))) (
       (some (.ret [.d (.int .i64 16)] [] []))) (
      R75_4 (C75 Γ γ84) Λ2 J (List.map api_Prop.enc x0) (List.map api_Prop.enc x8) x9 (IntKind.wrap .i64 (x10 + 1)))) none) (
    R75_4 (C75 Γ γ84) Λ2 J (List.map api_Prop.enc x0) (List.map api_Prop.enc x8) x9 (IntKind.wrap .i64 (x10 + 1)))))) none) (
  (some (.ret [.d (.int .i64 0)] [] []))) := by kernel_rfl
abbrev X75 : CFun := C75 (callG SE good) (callT SE good 84 message_key_out)
theorem Cr75 : C75 (callG SE good) (callT SE good 84 message_key_out) = bindC (callG SE good) := by unfold C75; rw [updC_real (fun _ h => h)]
noncomputable abbrev Q75_4 (a0 : (List (List D))) (a1 : (List (List D))) (a2 : Int) (a3 : Int) : Res := R75_4 X75 (lam2 SE (callG SE good) (SE.hl 75) (SE.hr 75)) (J0 SE X75) a0 a1 a2 a3
theorem message_Props_l4_ok : ∀ (fu : Nat) (x0 : (List api_Prop)) (x8 : (List api_Prop)) (x9 : Int) (x10 : Int), Le (Option.map message_Props_out (message_Props_l4 fu x0 x8 x9 x10)) (Q75_4 (List.map api_Prop.enc x0) (List.map api_Prop.enc x8) x9 x10) := by
  intro fu
  induction fu with
  | zero => intros; exact le_none
  | succ fu ih =>
    intro x0 x8 x9 x10
    refine Le.trans ?_ (le_of_eq ((lab_realC Cr75).trans (T75_4 _ _ _ _  x0 x8 x9 x10)).symm)
    unfold message_Props_l4
    refine le_cond rfl (fun _ => ?_) (fun _ => ?_)
    · skip
      refine le_cond (by simp only [EN]) (fun _ => ?_) (fun _ => le_none)
      refine le_call (good := good) (fun y => ⟨y, rfl⟩) message_key_inj (by first | (simp only [EN]; exact message_key_ok ((List.getD x8 (Int.toNat x10) default).Key)) | exact message_key_ok ((List.getD x8 (Int.toNat x10) default).Key)) (fun r0 _ => ?_)
      refine le_cond rfl (fun _ => ?_) (fun _ => ?_)
      · skip
        exact le_ret (by first | rfl | (simp only [EN, message_Props_out]; done) | (simp only [EN, message_Props_out]; rfl))
      · skip
        refine le_cond (by simp only [EN]) (fun _ => ?_) (fun _ => ?_)
        · skip
          exact le_ret (by first | rfl | (simp only [EN, message_Props_out]; done) | (simp only [EN, message_Props_out]; rfl))
        · skip
          refine le_cond rfl (fun _ => ?_) (fun _ => ?_)
          · skip
            refine le_cond (by simp only [EN]) (fun _ => ?_) (fun _ => le_none)
            refine le_cond (by simp only [EN]) (fun _ => ?_) (fun _ => ?_)
            · skip
              exact le_ret (by first | rfl | (simp only [EN, message_Props_out]; done) | (simp only [EN, message_Props_out]; rfl))
            · skip
              exact ih x0 x8 x9 (IntKind.wrap .i64 (x10 + 1))
          · skip
            exact ih x0 x8 x9 (IntKind.wrap .i64 (x10 + 1))
    · skip
      exact le_ret (by first | rfl | (simp only [EN, message_Props_out]; done) | (simp only [EN, message_Props_out]; rfl))
theorem message_Props_ok (p0 : (List api_Prop)) : Le (Option.map message_Props_out (message_Props p0)) (callW SE 75 [.d (.sl api_Prop.ks (List.map api_Prop.enc p0))] [] []) := by
  refine le_bodyC Cr75 ?_
  refine Le.trans ?_ (le_of_eq (T75 _ _ _ _  p0).symm)
  unfold message_Props
  refine le_cond (by simp only [EN]) (fun _ => ?_) (fun _ => ?_)
  · skip
    exact le_ret (by first | rfl | (simp only [EN, message_Props_out]; done) | (simp only [EN, message_Props_out]; rfl))
  · skip
    first | (simp only [EN]; exact message_Props_l4_ok fuel p0 p0 (List.length p0 : Int) 0) | exact message_Props_l4_ok fuel p0 p0 (List.length p0 : Int) 0
def C64 (Γ : Fun) (γ73 : Gm (Bool)) (γ74 : Gm (Bool)) (γ36 : Gm (Bool)) (γ75 : Gm (Int)) : CFun := updC (updC (updC (updC (bindC Γ) 73 topic_Valid_out γ73) 74 message_is_out γ74) 36 topic_Name_out γ36) 75 message_Props_out γ75
theorem T64 (Γ : Fun) (γ73 : Gm (Bool)) (γ74 : Gm (Bool)) (γ36 : Gm (Bool)) (γ75 : Gm (Int)) (Λ2 J : Lam) (p0 : api_Message) : bodyC SE (C64 Γ γ73 γ74 γ36 γ75) Λ2 J 64 [api_Message.av p0] [] [] =
  γ73 [.d (.str p0.Topic)] [] [] fun r0 =>
  cond (!r0) (
   (some (.ret [.d (.int .i64 12)] [] []))) (
  cond (decide ((List.length p0.Payload : Int) > 256)) (
   (some (.ret [.d (.int .i64 5)] [] []))) (
  γ74 [.d (.int .i64 p0.Level), .d (.int .i64 2)] [] [] fun r1 =>
  cond (!r1) (
   (some (.ret [.d (.int .i64 14)] [] []))) (
  γ74 [.d (.int .i64 p0.Priority), .d (.int .i64 9)] [] [] fun r2 =>
  cond (!r2) (
   (some (.ret [.d (.int .i64 1)] [] []))) (
  γ74 [.d (.int .i64 p0.Expires), .d (.int .i64 1099511627776)] [] [] fun r3 =>
  cond (!r3) (
   (some (.ret [.d (.int .i64 1)] [] []))) (
  cond (!(p0.From == ([] : Str))) (
   γ36 [.d (.str p0.From)] [] [] fun r4 =>
   cond (!r4) (
    (some (.ret [.d (.int .i64 11)] [] []))) (
   γ74 [.d (.int .i64 p0.Seq), .d (.int .i64 1099511627776)] [] [] fun r5 =>
   cond (!r5) (
    (some (.ret [.d (.int .i64 1)] [] []))) (
   γ75 [.d (.sl api_Prop.ks (List.map api_Prop.enc p0.Props))] [] [] fun r6 =>
   (some (.ret [.d (.int .i64 r6)] [] []))))) (
  γ74 [.d (.int .i64 p0.Seq), .d (.int .i64 1099511627776)] [] [] fun r7 =>
  cond (!r7) (
   (some (.ret [.d (.int .i64 1)] [] []))) (
  γ75 [.d (.sl api_Prop.ks (List.map api_Prop.enc p0.Props))] [] [] fun r8 =>
  (some (.ret [.d (.int .i64 r8)] [] []))))))))) := by kernel_rfl
abbrev X64 : CFun := C64 (callG SE good) (callT SE good 73 topic_Valid_out) (callT SE good 74 message_is_out) (callT SE good 36 topic_Name_out) (callT SE good 75 message_Props_out)
theorem Cr64 : C64 (callG SE good) (callT SE good 73 topic_Valid_out) (callT SE good 74 message_is_out) (callT SE good 36 topic_Name_out) (callT SE good 75 message_Props_out) = bindC (callG SE good) := by unfold C64; rw [updC_real (fun _ h => h), updC_real (fun _ h => h), updC_real (fun _ h => h), updC_real (fun _ h => h)]
theorem message_Check_ok (p0 : api_Message) : Le (Option.map message_Check_out (message_Check p0)) (callW SE 64 [api_Message.av p0] [] []) := by
  refine le_bodyC Cr64 ?_
  refine Le.trans ?_ (le_of_eq (T64 _ _ _ _ _ _ _  p0).symm)
  unfold message_Check
  refine le_call (good := good) (fun y => ⟨y, rfl⟩) topic_Valid_inj (topic_Valid_ok p0.Topic) (fun r0 _ => ?_)
  refine le_cond rfl (fun _ => ?_) (fun _ => ?_)
  · skip
    exact le_ret (by first | rfl | (simp only [EN, message_Check_out]; done) | (simp only [EN, message_Check_out]; rfl))
  · skip
    refine le_cond rfl (fun _ => ?_) (fun _ => ?_)
    · skip
      exact le_ret (by first | rfl | (simp only [EN, message_Check_out]; done) | (simp only [EN, message_Check_out]; rfl))
    · skip
      refine le_call (good := good) (fun y => ⟨y, rfl⟩) message_is_inj (message_is_ok p0.Level 2) (fun r1 _ => ?_)
      refine le_cond rfl (fun _ => ?_) (fun _ => ?_)
      · skip
        exact le_ret (by first | rfl | (simp only [EN, message_Check_out]; done) | (simp only [EN, message_Check_out]; rfl))
      · skip
        refine le_call (good := good) (fun y => ⟨y, rfl⟩) message_is_inj (message_is_ok p0.Priority 9) (fun r2 _ => ?_)
        refine le_cond rfl (fun _ => ?_) (fun _ => ?_)
        · skip
          exact le_ret (by first | rfl | (simp only [EN, message_Check_out]; done) | (simp only [EN, message_Check_out]; rfl))
        · skip
          refine le_call (good := good) (fun y => ⟨y, rfl⟩) message_is_inj (message_is_ok p0.Expires 1099511627776) (fun r3 _ => ?_)
          refine le_cond rfl (fun _ => ?_) (fun _ => ?_)
          · skip
            exact le_ret (by first | rfl | (simp only [EN, message_Check_out]; done) | (simp only [EN, message_Check_out]; rfl))
          · skip
            refine le_cond rfl (fun _ => ?_) (fun _ => ?_)
            · skip
              refine le_call (good := good) (fun y => ⟨y, rfl⟩) topic_Name_inj (topic_Name_ok p0.From) (fun r4 _ => ?_)
              refine le_cond rfl (fun _ => ?_) (fun _ => ?_)
              · skip
                exact le_ret (by first | rfl | (simp only [EN, message_Check_out]; done) | (simp only [EN, message_Check_out]; rfl))
              · skip
                refine le_call (good := good) (fun y => ⟨y, rfl⟩) message_is_inj (message_is_ok p0.Seq 1099511627776) (fun r5 _ => ?_)
                refine le_cond rfl (fun _ => ?_) (fun _ => ?_)
                · skip
                  exact le_ret (by first | rfl | (simp only [EN, message_Check_out]; done) | (simp only [EN, message_Check_out]; rfl))
                · skip
                  refine le_call (good := good) (fun y => ⟨y, rfl⟩) message_Props_inj (message_Props_ok p0.Props) (fun r6 _ => ?_)
                  exact le_ret (by first | rfl | (simp only [EN, message_Check_out]; done) | (simp only [EN, message_Check_out]; rfl))
            · skip
              refine le_call (good := good) (fun y => ⟨y, rfl⟩) message_is_inj (message_is_ok p0.Seq 1099511627776) (fun r7 _ => ?_)
              refine le_cond rfl (fun _ => ?_) (fun _ => ?_)
              · skip
                exact le_ret (by first | rfl | (simp only [EN, message_Check_out]; done) | (simp only [EN, message_Check_out]; rfl))
              · skip
                refine le_call (good := good) (fun y => ⟨y, rfl⟩) message_Props_inj (message_Props_ok p0.Props) (fun r8 _ => ?_)
                exact le_ret (by first | rfl | (simp only [EN, message_Check_out]; done) | (simp only [EN, message_Check_out]; rfl))
def C42 (Γ : Fun) (γ36 : Gm (Bool)) (γ39 : Gm (Bool)) (γ60 : Gm (Bool)) (γ64 : Gm (Int)) : CFun := updC (updC (updC (updC (bindC Γ) 36 topic_Name_out γ36) 39 packet_is_out γ39) 60 message_Same_out γ60) 64 message_Check_out γ64
theorem T42 (Γ : Fun) (γ36 : Gm (Bool)) (γ39 : Gm (Bool)) (γ60 : Gm (Bool)) (γ64 : Gm (Int)) (Λ2 J : Lam) (p0 : api_Packet) : bodyC SE (C42 Γ γ36 γ39 γ60 γ64) Λ2 J 42 [api_Packet.av p0] [] [] =
  γ36 [.d (.str p0.Client)] [] [] fun r0 =>
  cond (!r0) (
   (some (.ret [.d (.int .i64 11)] [] []))) (
  cond (!(p0.User == ([] : Str))) (
   γ36 [.d (.str p0.User)] [] [] fun r1 =>
   cond (!r1) (
    (some (.ret [.d (.int .i64 11)] [] []))) (
   γ39 [.d (.int .i64 p0.Keep), .d (.int .i64 0), .d (.int .i64 1099511627776)] [] [] fun r2 =>
   cond (!r2) (
    (some (.ret [.d (.int .i64 1)] [] []))) (
   γ39 [.d (.int .i64 p0.Expiry), .d (.int .i64 0), .d (.int .i64 1099511627776)] [] [] fun r3 =>
   cond (!r3) (
    (some (.ret [.d (.int .i64 1)] [] []))) (
   γ39 [.d (.int .i64 p0.Window), .d (.int .i64 1), .d (.int .i64 32)] [] [] fun r4 =>
   cond (!r4) (
    (some (.ret [.d (.int .i64 1)] [] []))) (
   cond (!p0.Will.Set) (
    cond (p0.Will.Delay != 0) (
     (some (.ret [.d (.int .i64 28)] [] []))) (
    γ60 [api_Message.av p0.Will.Message, .agg [.d (.str ([] : Str)), .d (.str ([] : Str)), .d (.int .i64 0), .d (.bool false), .d (.int .i64 0), .d (.int .i64 0), .d (.str ([] : Str)), .d (.int .i64 0), .d (.sl api_Prop.ks (List.map api_Prop.enc []))]] [] [] fun r5 =>
    cond (!r5) (
     (some (.ret [.d (.int .i64 28)] [] []))) (
    cond (!p0.Will.Set) (
     (some (.ret [.d (.int .i64 0)] [] []))) (
    γ39 [.d (.int .i64 p0.Will.Delay), .d (.int .i64 0), .d (.int .i64 1099511627776)] [] [] fun r6 =>
    cond (!r6) (
     (some (.ret [.d (.int .i64 1)] [] []))) (
    γ64 [api_Message.av p0.Will.Message] [] [] fun r7 =>
    (some (.ret [.d (.int .i64 r7)] [] []))))))) (
   cond (!p0.Will.Set) (
    (some (.ret [.d (.int .i64 0)] [] []))) (
   γ39 [.d (.int .i64 p0.Will.Delay), .d (.int .i64 0), .d (.int .i64 1099511627776)] [] [] fun r8 =>
   cond (!r8) (
    (some (.ret [.d (.int .i64 1)] [] []))) (
   γ64 [api_Message.av p0.Will.Message] [] [] fun r9 =>
   (some (.ret [.d (.int .i64 r9)] [] [])))))))))) (
  γ39 [.d (.int .i64 p0.Keep), .d (.int .i64 0), .d (.int .i64 1099511627776)] [] [] fun r10 =>
  cond (!r10) (
   (some (.ret [.d (.int .i64 1)] [] []))) (
  γ39 [.d (.int .i64 p0.Expiry), .d (.int .i64 0), .d (.int .i64 1099511627776)] [] [] fun r11 =>
  cond (!r11) (
   (some (.ret [.d (.int .i64 1)] [] []))) (
  γ39 [.d (.int .i64 p0.Window), .d (.int .i64 1), .d (.int .i64 32)] [] [] fun r12 =>
  cond (!r12) (
   (some (.ret [.d (.int .i64 1)] [] []))) (
  cond (!p0.Will.Set) (
   cond (p0.Will.Delay != 0) (
    (some (.ret [.d (.int .i64 28)] [] []))) (
   γ60 [api_Message.av p0.Will.Message, .agg [.d (.str ([] : Str)), .d (.str ([] : Str)), .d (.int .i64 0), .d (.bool false), .d (.int .i64 0), .d (.int .i64 0), .d (.str ([] : Str)), .d (.int .i64 0), .d (.sl api_Prop.ks (List.map api_Prop.enc []))]] [] [] fun r13 =>
   cond (!r13) (
    (some (.ret [.d (.int .i64 28)] [] []))) (
   cond (!p0.Will.Set) (
    (some (.ret [.d (.int .i64 0)] [] []))) (
   γ39 [.d (.int .i64 p0.Will.Delay), .d (.int .i64 0), .d (.int .i64 1099511627776)] [] [] fun r14 =>
   cond (!r14) (
    (some (.ret [.d (.int .i64 1)] [] []))) (
   γ64 [api_Message.av p0.Will.Message] [] [] fun r15 =>
   (some (.ret [.d (.int .i64 r15)] [] []))))))) (
  cond (!p0.Will.Set) (
   (some (.ret [.d (.int .i64 0)] [] []))) (
  γ39 [.d (.int .i64 p0.Will.Delay), .d (.int .i64 0), .d (.int .i64 1099511627776)] [] [] fun r16 =>
  cond (!r16) (
   (some (.ret [.d (.int .i64 1)] [] []))) (
  γ64 [api_Message.av p0.Will.Message] [] [] fun r17 =>
  (some (.ret [.d (.int .i64 r17)] [] [])))))))))) := by kernel_rfl
abbrev X42 : CFun := C42 (callG SE good) (callT SE good 36 topic_Name_out) (callT SE good 39 packet_is_out) (callT SE good 60 message_Same_out) (callT SE good 64 message_Check_out)
theorem Cr42 : C42 (callG SE good) (callT SE good 36 topic_Name_out) (callT SE good 39 packet_is_out) (callT SE good 60 message_Same_out) (callT SE good 64 message_Check_out) = bindC (callG SE good) := by unfold C42; rw [updC_real (fun _ h => h), updC_real (fun _ h => h), updC_real (fun _ h => h), updC_real (fun _ h => h)]
theorem packet_connect_ok (p0 : api_Packet) : Le (Option.map packet_connect_out (packet_connect p0)) (callW SE 42 [api_Packet.av p0] [] []) := by
  refine le_bodyC Cr42 ?_
  refine Le.trans ?_ (le_of_eq (T42 _ _ _ _ _ _ _  p0).symm)
  unfold packet_connect
  refine le_call (good := good) (fun y => ⟨y, rfl⟩) topic_Name_inj (topic_Name_ok p0.Client) (fun r0 _ => ?_)
  refine le_cond rfl (fun _ => ?_) (fun _ => ?_)
  · skip
    exact le_ret (by first | rfl | (simp only [EN, packet_connect_out]; done) | (simp only [EN, packet_connect_out]; rfl))
  · skip
    refine le_cond rfl (fun _ => ?_) (fun _ => ?_)
    · skip
      refine le_call (good := good) (fun y => ⟨y, rfl⟩) topic_Name_inj (topic_Name_ok p0.User) (fun r1 _ => ?_)
      refine le_cond rfl (fun _ => ?_) (fun _ => ?_)
      · skip
        exact le_ret (by first | rfl | (simp only [EN, packet_connect_out]; done) | (simp only [EN, packet_connect_out]; rfl))
      · skip
        refine le_call (good := good) (fun y => ⟨y, rfl⟩) packet_is_inj (packet_is_ok p0.Keep 0 1099511627776) (fun r2 _ => ?_)
        refine le_cond rfl (fun _ => ?_) (fun _ => ?_)
        · skip
          exact le_ret (by first | rfl | (simp only [EN, packet_connect_out]; done) | (simp only [EN, packet_connect_out]; rfl))
        · skip
          refine le_call (good := good) (fun y => ⟨y, rfl⟩) packet_is_inj (packet_is_ok p0.Expiry 0 1099511627776) (fun r3 _ => ?_)
          refine le_cond rfl (fun _ => ?_) (fun _ => ?_)
          · skip
            exact le_ret (by first | rfl | (simp only [EN, packet_connect_out]; done) | (simp only [EN, packet_connect_out]; rfl))
          · skip
            refine le_call (good := good) (fun y => ⟨y, rfl⟩) packet_is_inj (packet_is_ok p0.Window 1 32) (fun r4 _ => ?_)
            refine le_cond rfl (fun _ => ?_) (fun _ => ?_)
            · skip
              exact le_ret (by first | rfl | (simp only [EN, packet_connect_out]; done) | (simp only [EN, packet_connect_out]; rfl))
            · skip
              refine le_cond rfl (fun _ => ?_) (fun _ => ?_)
              · skip
                refine le_cond rfl (fun _ => ?_) (fun _ => ?_)
                · skip
                  exact le_ret (by first | rfl | (simp only [EN, packet_connect_out]; done) | (simp only [EN, packet_connect_out]; rfl))
                · skip
                  refine le_call (good := good) (fun y => ⟨y, rfl⟩) message_Same_inj (by first | (simp only [EN]; exact message_Same_ok p0.Will.Message ((api_Message.mk ([] : Str) ([] : Str) 0 false 0 0 ([] : Str) 0 ([] : List api_Prop)))) | exact message_Same_ok p0.Will.Message ((api_Message.mk ([] : Str) ([] : Str) 0 false 0 0 ([] : Str) 0 ([] : List api_Prop)))) (fun r5 _ => ?_)
                  refine le_cond rfl (fun _ => ?_) (fun _ => ?_)
                  · skip
                    exact le_ret (by first | rfl | (simp only [EN, packet_connect_out]; done) | (simp only [EN, packet_connect_out]; rfl))
                  · skip
                    refine le_cond rfl (fun _ => ?_) (fun _ => ?_)
                    · skip
                      exact le_ret (by first | rfl | (simp only [EN, packet_connect_out]; done) | (simp only [EN, packet_connect_out]; rfl))
                    · skip
                      refine le_call (good := good) (fun y => ⟨y, rfl⟩) packet_is_inj (packet_is_ok p0.Will.Delay 0 1099511627776) (fun r6 _ => ?_)
                      refine le_cond rfl (fun _ => ?_) (fun _ => ?_)
                      · skip
                        exact le_ret (by first | rfl | (simp only [EN, packet_connect_out]; done) | (simp only [EN, packet_connect_out]; rfl))
                      · skip
                        refine le_call (good := good) (fun y => ⟨y, rfl⟩) message_Check_inj (message_Check_ok p0.Will.Message) (fun r7 _ => ?_)
                        exact le_ret (by first | rfl | (simp only [EN, packet_connect_out]; done) | (simp only [EN, packet_connect_out]; rfl))
              · skip
                refine le_cond rfl (fun _ => ?_) (fun _ => ?_)
                · skip
                  exact le_ret (by first | rfl | (simp only [EN, packet_connect_out]; done) | (simp only [EN, packet_connect_out]; rfl))
                · skip
                  refine le_call (good := good) (fun y => ⟨y, rfl⟩) packet_is_inj (packet_is_ok p0.Will.Delay 0 1099511627776) (fun r8 _ => ?_)
                  refine le_cond rfl (fun _ => ?_) (fun _ => ?_)
                  · skip
                    exact le_ret (by first | rfl | (simp only [EN, packet_connect_out]; done) | (simp only [EN, packet_connect_out]; rfl))
                  · skip
                    refine le_call (good := good) (fun y => ⟨y, rfl⟩) message_Check_inj (message_Check_ok p0.Will.Message) (fun r9 _ => ?_)
                    exact le_ret (by first | rfl | (simp only [EN, packet_connect_out]; done) | (simp only [EN, packet_connect_out]; rfl))
    · skip
      refine le_call (good := good) (fun y => ⟨y, rfl⟩) packet_is_inj (packet_is_ok p0.Keep 0 1099511627776) (fun r10 _ => ?_)
      refine le_cond rfl (fun _ => ?_) (fun _ => ?_)
      · skip
        exact le_ret (by first | rfl | (simp only [EN, packet_connect_out]; done) | (simp only [EN, packet_connect_out]; rfl))
      · skip
        refine le_call (good := good) (fun y => ⟨y, rfl⟩) packet_is_inj (packet_is_ok p0.Expiry 0 1099511627776) (fun r11 _ => ?_)
        refine le_cond rfl (fun _ => ?_) (fun _ => ?_)
        · skip
          exact le_ret (by first | rfl | (simp only [EN, packet_connect_out]; done) | (simp only [EN, packet_connect_out]; rfl))
        · skip
          refine le_call (good := good) (fun y => ⟨y, rfl⟩) packet_is_inj (packet_is_ok p0.Window 1 32) (fun r12 _ => ?_)
          refine le_cond rfl (fun _ => ?_) (fun _ => ?_)
          · skip
            exact le_ret (by first | rfl | (simp only [EN, packet_connect_out]; done) | (simp only [EN, packet_connect_out]; rfl))
          · skip
            refine le_cond rfl (fun _ => ?_) (fun _ => ?_)
            · skip
              refine le_cond rfl (fun _ => ?_) (fun _ => ?_)
              · skip
                exact le_ret (by first | rfl | (simp only [EN, packet_connect_out]; done) | (simp only [EN, packet_connect_out]; rfl))
              · skip
                refine le_call (good := good) (fun y => ⟨y, rfl⟩) message_Same_inj (by first | (simp only [EN]; exact message_Same_ok p0.Will.Message ((api_Message.mk ([] : Str) ([] : Str) 0 false 0 0 ([] : Str) 0 ([] : List api_Prop)))) | exact message_Same_ok p0.Will.Message ((api_Message.mk ([] : Str) ([] : Str) 0 false 0 0 ([] : Str) 0 ([] : List api_Prop)))) (fun r13 _ => ?_)
                refine le_cond rfl (fun _ => ?_) (fun _ => ?_)
                · skip
                  exact le_ret (by first | rfl | (simp only [EN, packet_connect_out]; done) | (simp only [EN, packet_connect_out]; rfl))
                · skip
                  refine le_cond rfl (fun _ => ?_) (fun _ => ?_)
                  · skip
                    exact le_ret (by first | rfl | (simp only [EN, packet_connect_out]; done) | (simp only [EN, packet_connect_out]; rfl))
                  · skip
                    refine le_call (good := good) (fun y => ⟨y, rfl⟩) packet_is_inj (packet_is_ok p0.Will.Delay 0 1099511627776) (fun r14 _ => ?_)
                    refine le_cond rfl (fun _ => ?_) (fun _ => ?_)
                    · skip
                      exact le_ret (by first | rfl | (simp only [EN, packet_connect_out]; done) | (simp only [EN, packet_connect_out]; rfl))
                    · skip
                      refine le_call (good := good) (fun y => ⟨y, rfl⟩) message_Check_inj (message_Check_ok p0.Will.Message) (fun r15 _ => ?_)
                      exact le_ret (by first | rfl | (simp only [EN, packet_connect_out]; done) | (simp only [EN, packet_connect_out]; rfl))
            · skip
              refine le_cond rfl (fun _ => ?_) (fun _ => ?_)
              · skip
                exact le_ret (by first | rfl | (simp only [EN, packet_connect_out]; done) | (simp only [EN, packet_connect_out]; rfl))
              · skip
                refine le_call (good := good) (fun y => ⟨y, rfl⟩) packet_is_inj (packet_is_ok p0.Will.Delay 0 1099511627776) (fun r16 _ => ?_)
                refine le_cond rfl (fun _ => ?_) (fun _ => ?_)
                · skip
                  exact le_ret (by first | rfl | (simp only [EN, packet_connect_out]; done) | (simp only [EN, packet_connect_out]; rfl))
                · skip
                  refine le_call (good := good) (fun y => ⟨y, rfl⟩) message_Check_inj (message_Check_ok p0.Will.Message) (fun r17 _ => ?_)
                  exact le_ret (by first | rfl | (simp only [EN, packet_connect_out]; done) | (simp only [EN, packet_connect_out]; rfl))
def C43 (Γ : Fun) (γ39 : Gm (Bool)) : CFun := updC (bindC Γ) 39 packet_is_out γ39
theorem T43 (Γ : Fun) (γ39 : Gm (Bool)) (Λ2 J : Lam) (p0 : Int) : bodyC SE (C43 Γ γ39) Λ2 J 43 [.d (.int .i64 p0)] [] [] =
  γ39 [.d (.int .i64 p0), .d (.int .i64 0), .d (.int .i64 29)] [] [] fun r0 =>
  (some (.ret [.d (.bool r0)] [] [])) := by kernel_rfl
abbrev X43 : CFun := C43 (callG SE good) (callT SE good 39 packet_is_out)
theorem Cr43 : C43 (callG SE good) (callT SE good 39 packet_is_out) = bindC (callG SE good) := by unfold C43; rw [updC_real (fun _ h => h)]
theorem packet_code_ok (p0 : Int) : Le (Option.map packet_code_out (packet_code p0)) (callW SE 43 [.d (.int .i64 p0)] [] []) := by
  refine le_bodyC Cr43 ?_
  refine Le.trans ?_ (le_of_eq (T43 _ _ _ _  p0).symm)
  unfold packet_code
  refine le_call (good := good) (fun y => ⟨y, rfl⟩) packet_is_inj (packet_is_ok p0 0 29) (fun r0 _ => ?_)
  exact le_ret (by first | rfl | (simp only [EN, packet_code_out]; done) | (simp only [EN, packet_code_out]; rfl))
def C45 (Γ : Fun) (γ39 : Gm (Bool)) : CFun := updC (bindC Γ) 39 packet_is_out γ39
theorem T45 (Γ : Fun) (γ39 : Gm (Bool)) (Λ2 J : Lam) (p0 : Int) : bodyC SE (C45 Γ γ39) Λ2 J 45 [.d (.int .i64 p0)] [] [] =
  γ39 [.d (.int .i64 p0), .d (.int .i64 1), .d (.int .i64 65535)] [] [] fun r0 =>
  cond (!r0) (
   (some (.ret [.d (.int .i64 15)] [] []))) (
  (some (.ret [.d (.int .i64 0)] [] []))) := by kernel_rfl
abbrev X45 : CFun := C45 (callG SE good) (callT SE good 39 packet_is_out)
theorem Cr45 : C45 (callG SE good) (callT SE good 39 packet_is_out) = bindC (callG SE good) := by unfold C45; rw [updC_real (fun _ h => h)]
theorem packet_ident_ok (p0 : Int) : Le (Option.map packet_ident_out (packet_ident p0)) (callW SE 45 [.d (.int .i64 p0)] [] []) := by
  refine le_bodyC Cr45 ?_
  refine Le.trans ?_ (le_of_eq (T45 _ _ _ _  p0).symm)
  unfold packet_ident
  refine le_call (good := good) (fun y => ⟨y, rfl⟩) packet_is_inj (packet_is_ok p0 1 65535) (fun r0 _ => ?_)
  refine le_cond rfl (fun _ => ?_) (fun _ => ?_)
  · skip
    exact le_ret (by first | rfl | (simp only [EN, packet_ident_out]; done) | (simp only [EN, packet_ident_out]; rfl))
  · skip
    exact le_ret (by first | rfl | (simp only [EN, packet_ident_out]; done) | (simp only [EN, packet_ident_out]; rfl))
def C44 (Γ : Fun) (γ64 : Gm (Int)) (γ45 : Gm (Int)) : CFun := updC (updC (bindC Γ) 64 message_Check_out γ64) 45 packet_ident_out γ45
theorem T44 (Γ : Fun) (γ64 : Gm (Int)) (γ45 : Gm (Int)) (Λ2 J : Lam) (p0 : api_Packet) : bodyC SE (C44 Γ γ64 γ45) Λ2 J 44 [api_Packet.av p0] [] [] =
  γ64 [api_Message.av p0.Message] [] [] fun r0 =>
  cond (r0 != 0) (
   (some (.ret [.d (.int .i64 r0)] [] []))) (
  cond (p0.Message.Level != 0) (
   γ45 [.d (.int .i64 p0.ID)] [] [] fun r1 =>
   (some (.ret [.d (.int .i64 r1)] [] []))) (
  cond (p0.ID != 0) (
   (some (.ret [.d (.int .i64 15)] [] []))) (
  cond p0.Dup (
   (some (.ret [.d (.int .i64 28)] [] []))) (
  (some (.ret [.d (.int .i64 0)] [] [])))))) := by kernel_rfl
abbrev X44 : CFun := C44 (callG SE good) (callT SE good 64 message_Check_out) (callT SE good 45 packet_ident_out)
theorem Cr44 : C44 (callG SE good) (callT SE good 64 message_Check_out) (callT SE good 45 packet_ident_out) = bindC (callG SE good) := by unfold C44; rw [updC_real (fun _ h => h), updC_real (fun _ h => h)]
theorem packet_publish_ok (p0 : api_Packet) : Le (Option.map packet_publish_out (packet_publish p0)) (callW SE 44 [api_Packet.av p0] [] []) := by
  refine le_bodyC Cr44 ?_
  refine Le.trans ?_ (le_of_eq (T44 _ _ _ _ _  p0).symm)
  unfold packet_publish
  refine le_call (good := good) (fun y => ⟨y, rfl⟩) message_Check_inj (message_Check_ok p0.Message) (fun r0 _ => ?_)
  refine le_cond rfl (fun _ => ?_) (fun _ => ?_)
  · skip
    exact le_ret (by first | rfl | (simp only [EN, packet_publish_out]; done) | (simp only [EN, packet_publish_out]; rfl))
  · skip
    refine le_cond rfl (fun _ => ?_) (fun _ => ?_)
    · skip
      refine le_call (good := good) (fun y => ⟨y, rfl⟩) packet_ident_inj (packet_ident_ok p0.ID) (fun r1 _ => ?_)
      exact le_ret (by first | rfl | (simp only [EN, packet_publish_out]; done) | (simp only [EN, packet_publish_out]; rfl))
    · skip
      refine le_cond rfl (fun _ => ?_) (fun _ => ?_)
      · skip
        exact le_ret (by first | rfl | (simp only [EN, packet_publish_out]; done) | (simp only [EN, packet_publish_out]; rfl))
      · skip
        refine le_cond rfl (fun _ => ?_) (fun _ => ?_)
        · skip
          exact le_ret (by first | rfl | (simp only [EN, packet_publish_out]; done) | (simp only [EN, packet_publish_out]; rfl))
        · skip
          exact le_ret (by first | rfl | (simp only [EN, packet_publish_out]; done) | (simp only [EN, packet_publish_out]; rfl))
def C65 (Γ : Fun) (γ39 : Gm (Bool)) : CFun := updC (bindC Γ) 39 packet_is_out γ39
theorem T65 (Γ : Fun) (γ39 : Gm (Bool)) (Λ2 J : Lam) (p0 : Int) (p1 : Int) : bodyC SE (C65 Γ γ39) Λ2 J 65 [.d (.int .i64 p0), .d (.int .i64 p1)] [] [] =
  γ39 [.d (.int .i64 p0), .d (.int .i64 1), .d (.int .i64 65535)] [] [] fun r0 =>
  cond (!r0) (
   (some (.ret [.d (.int .i64 15)] [] []))) (
  cond (p1 == 0) (
   (some (.ret [.d (.int .i64 1)] [] []))) (
  cond (decide (p1 > 32)) (
   (some (.ret [.d (.int .i64 5)] [] []))) (
  (some (.ret [.d (.int .i64 0)] [] []))))) := by kernel_rfl
abbrev X65 : CFun := C65 (callG SE good) (callT SE good 39 packet_is_out)
theorem Cr65 : C65 (callG SE good) (callT SE good 39 packet_is_out) = bindC (callG SE good) := by unfold C65; rw [updC_real (fun _ h => h)]
theorem packet_counted_ok (p0 : Int) (p1 : Int) : Le (Option.map packet_counted_out (packet_counted p0 p1)) (callW SE 65 [.d (.int .i64 p0), .d (.int .i64 p1)] [] []) := by
  refine le_bodyC Cr65 ?_
  refine Le.trans ?_ (le_of_eq (T65 _ _ _ _  p0 p1).symm)
  unfold packet_counted
  refine le_call (good := good) (fun y => ⟨y, rfl⟩) packet_is_inj (packet_is_ok p0 1 65535) (fun r0 _ => ?_)
  refine le_cond rfl (fun _ => ?_) (fun _ => ?_)
  · skip
    exact le_ret (by first | rfl | (simp only [EN, packet_counted_out]; done) | (simp only [EN, packet_counted_out]; rfl))
  · skip
    refine le_cond rfl (fun _ => ?_) (fun _ => ?_)
    · skip
      exact le_ret (by first | rfl | (simp only [EN, packet_counted_out]; done) | (simp only [EN, packet_counted_out]; rfl))
    · skip
      refine le_cond rfl (fun _ => ?_) (fun _ => ?_)
      · skip
        exact le_ret (by first | rfl | (simp only [EN, packet_counted_out]; done) | (simp only [EN, packet_counted_out]; rfl))
      · skip
        exact le_ret (by first | rfl | (simp only [EN, packet_counted_out]; done) | (simp only [EN, packet_counted_out]; rfl))
def C88 (Γ : Fun)  : CFun := bindC Γ
theorem T88 (Γ : Fun)  (Λ2 J : Lam) (p0 : Str) (p1 : Str) : bodyC SE (C88 Γ) Λ2 J 88 [.d (.str p0), .d (.str p1)] [] [] =
  cond (decide ((List.length p0 : Int) ≥ (List.length p1 : Int))) (
   cond (decide (0 ≤ (List.length p1 : Int)) && decide ((List.length p1 : Int) ≤ ((List.length p0) : Int))) (
    (some (.ret [.d (.bool ((cutL p0 none (some (List.length p1 : Int))) == p1))] [] []))) none) (
  (some (.ret [.d (.bool false)] [] []))) := by kernel_rfl
abbrev X88 : CFun := C88 (callG SE good)
theorem Cr88 : C88 (callG SE good) = bindC (callG SE good) := by unfold C88; rfl
theorem stringslite_HasPrefix_ok (p0 : Str) (p1 : Str) : Le (Option.map stringslite_HasPrefix_out (stringslite_HasPrefix p0 p1)) (callW SE 88 [.d (.str p0), .d (.str p1)] [] []) := by
  refine le_bodyC Cr88 ?_
  refine Le.trans ?_ (le_of_eq (T88 _ _ _  p0 p1).symm)
  unfold stringslite_HasPrefix
  refine le_cond rfl (fun _ => ?_) (fun _ => ?_)
  · skip
    refine le_cond rfl (fun _ => ?_) (fun _ => le_none)
    exact le_ret (by first | rfl | (simp only [EN, stringslite_HasPrefix_out]; done) | (simp only [EN, stringslite_HasPrefix_out]; rfl))
  · skip
    exact le_ret (by first | rfl | (simp only [EN, stringslite_HasPrefix_out]; done) | (simp only [EN, stringslite_HasPrefix_out]; rfl))
def C89 (Γ : Fun) (γ88 : Gm (Bool)) : CFun := updC (bindC Γ) 88 stringslite_HasPrefix_out γ88
theorem T89 (Γ : Fun) (γ88 : Gm (Bool)) (Λ2 J : Lam) (p0 : Str) (p1 : Str) : bodyC SE (C89 Γ γ88) Λ2 J 89 [.d (.str p0), .d (.str p1)] [] [] =
  γ88 [.d (.str p0), .d (.str p1)] [] [] fun r0 =>
  cond (!r0) (
   (some (.ret [.d (.str p0), .d (.bool false)] [] []))) (
  cond (decide (0 ≤ (List.length p1 : Int)) && decide ((List.length p1 : Int) ≤ ((List.length p0) : Int))) (
   (some (.ret [.d (.str (cutL p0 (some (List.length p1 : Int)) none)), .d (.bool true)] [] []))) none) := by kernel_rfl
abbrev X89 : CFun := C89 (callG SE good) (callT SE good 88 stringslite_HasPrefix_out)
theorem Cr89 : C89 (callG SE good) (callT SE good 88 stringslite_HasPrefix_out) = bindC (callG SE good) := by unfold C89; rw [updC_real (fun _ h => h)]
theorem stringslite_CutPrefix_ok (p0 : Str) (p1 : Str) : Le (Option.map stringslite_CutPrefix_out (stringslite_CutPrefix p0 p1)) (callW SE 89 [.d (.str p0), .d (.str p1)] [] []) := by
  refine le_bodyC Cr89 ?_
  refine Le.trans ?_ (le_of_eq (T89 _ _ _ _  p0 p1).symm)
  unfold stringslite_CutPrefix
  refine le_call (good := good) (fun y => ⟨y, rfl⟩) stringslite_HasPrefix_inj (stringslite_HasPrefix_ok p0 p1) (fun r0 _ => ?_)
  refine le_cond rfl (fun _ => ?_) (fun _ => ?_)
  · skip
    exact le_ret (by first | rfl | (simp only [EN, stringslite_CutPrefix_out]; done) | (simp only [EN, stringslite_CutPrefix_out]; rfl))
  · skip
    refine le_cond rfl (fun _ => ?_) (fun _ => le_none)
    exact le_ret (by first | rfl | (simp only [EN, stringslite_CutPrefix_out]; done) | (simp only [EN, stringslite_CutPrefix_out]; rfl))
def C85 (Γ : Fun) (γ89 : Gm (Str × Bool)) : CFun := updC (bindC Γ) 89 stringslite_CutPrefix_out γ89
theorem T85 (Γ : Fun) (γ89 : Gm (Str × Bool)) (Λ2 J : Lam) (p0 : Str) (p1 : Str) : bodyC SE (C85 Γ γ89) Λ2 J 85 [.d (.str p0), .d (.str p1)] [] [] =
  γ89 [.d (.str p0), .d (.str p1)] [] [] fun r0 =>
  (some (.ret [.d (.str r0.1), .d (.bool r0.2)] [] [])) := by kernel_rfl
abbrev X85 : CFun := C85 (callG SE good) (callT SE good 89 stringslite_CutPrefix_out)
theorem Cr85 : C85 (callG SE good) (callT SE good 89 stringslite_CutPrefix_out) = bindC (callG SE good) := by unfold C85; rw [updC_real (fun _ h => h)]
theorem strings_CutPrefix_ok (p0 : Str) (p1 : Str) : Le (Option.map strings_CutPrefix_out (strings_CutPrefix p0 p1)) (callW SE 85 [.d (.str p0), .d (.str p1)] [] []) := by
  refine le_bodyC Cr85 ?_
  refine Le.trans ?_ (le_of_eq (T85 _ _ _ _  p0 p1).symm)
  unfold strings_CutPrefix
  refine le_call (good := good) (fun y => ⟨y, rfl⟩) stringslite_CutPrefix_inj (stringslite_CutPrefix_ok p0 p1) (fun r0 _ => ?_)
  exact le_ret (by first | rfl | (simp only [EN, strings_CutPrefix_out]; done) | (simp only [EN, strings_CutPrefix_out]; rfl))
def C94 (Γ : Fun)  : CFun := bindC Γ
theorem T94 (Γ : Fun)  (Λ2 J : Lam) (p0 : Str) (p1 : Int) : bodyC SE (C94 Γ) Λ2 J 94 [.d (.str p0), .d (.int .u8 p1)] [] [] =
  (some (.ret [.d (.int .i64 (Lib.indexByte p0 (UInt8.ofNat (Int.toNat p1)) : Int))] [] [])) := by kernel_rfl
abbrev X94 : CFun := C94 (callG SE good)
theorem Cr94 : C94 (callG SE good) = bindC (callG SE good) := by unfold C94; rfl
theorem stringslite_IndexByte_ok (p0 : Str) (p1 : Int) : Le (Option.map stringslite_IndexByte_out (stringslite_IndexByte p0 p1)) (callW SE 94 [.d (.str p0), .d (.int .u8 p1)] [] []) := by
  refine le_bodyC Cr94 ?_
  refine Le.trans ?_ (le_of_eq (T94 _ _ _  p0 p1).symm)
  unfold stringslite_IndexByte
  exact le_ret (by first | rfl | (simp only [EN, stringslite_IndexByte_out]; done) | (simp only [EN, stringslite_IndexByte_out]; rfl))
def C92 (Γ : Fun) (γ94 : Gm (Int)) : CFun := updC (bindC Γ) 94 stringslite_IndexByte_out γ94
theorem T92 (Γ : Fun) (γ94 : Gm (Int)) (Λ2 J : Lam) (p0 : Str) (p1 : Str) : bodyC SE (C92 Γ γ94) Λ2 J 92 [.d (.str p0), .d (.str p1)] [] [] =
  cond ((List.length p1 : Int) == 0) (
   (some (.ret [.d (.int .i64 0)] [] []))) (
  cond (p1 == p0) (
   (some (.ret [.d (.int .i64 0)] [] []))) (
  cond ((List.length p1 : Int) == 1) (
   cond (decide (0 ≤ 0) && decide (0 < (List.length p1 : Int))) (
    γ94 [.d (.str p0), .d (.int .u8 (UInt8.toNat (List.getD p1 (Int.toNat 0) 0) : Int))] [] [] fun r0 =>
    (some (.ret [.d (.int .i64 r0)] [] []))) none) (
  cond (decide ((List.length p1 : Int) ≥ (List.length p0 : Int))) (
   (some (.ret [.d (.int .i64 (-1))] [] []))) none))) := by kernel_rfl
abbrev X92 : CFun := C92 (callG SE good) (callT SE good 94 stringslite_IndexByte_out)
theorem Cr92 : C92 (callG SE good) (callT SE good 94 stringslite_IndexByte_out) = bindC (callG SE good) := by unfold C92; rw [updC_real (fun _ h => h)]
theorem stringslite_Index_ok (p0 : Str) (p1 : Str) : Le (Option.map stringslite_Index_out (stringslite_Index p0 p1)) (callW SE 92 [.d (.str p0), .d (.str p1)] [] []) := by
  refine le_bodyC Cr92 ?_
  refine Le.trans ?_ (le_of_eq (T92 _ _ _ _  p0 p1).symm)
  unfold stringslite_Index
  refine le_cond rfl (fun _ => ?_) (fun _ => ?_)
  · skip
    exact le_ret (by first | rfl | (simp only [EN, stringslite_Index_out]; done) | (simp only [EN, stringslite_Index_out]; rfl))
  · skip
    refine le_cond rfl (fun _ => ?_) (fun _ => ?_)
    · skip
      exact le_ret (by first | rfl | (simp only [EN, stringslite_Index_out]; done) | (simp only [EN, stringslite_Index_out]; rfl))
    · skip
      refine le_cond rfl (fun _ => ?_) (fun _ => ?_)
      · skip
        refine le_cond rfl (fun _ => ?_) (fun _ => le_none)
        refine le_call (good := good) (fun y => ⟨y, rfl⟩) stringslite_IndexByte_inj (stringslite_IndexByte_ok p0 (UInt8.toNat (List.getD p1 (Int.toNat 0) 0) : Int)) (fun r0 _ => ?_)
        exact le_ret (by first | rfl | (simp only [EN, stringslite_Index_out]; done) | (simp only [EN, stringslite_Index_out]; rfl))
      · skip
        refine le_cond rfl (fun _ => ?_) (fun _ => le_none)
        exact le_ret (by first | rfl | (simp only [EN, stringslite_Index_out]; done) | (simp only [EN, stringslite_Index_out]; rfl))
def C90 (Γ : Fun) (γ92 : Gm (Int)) : CFun := updC (bindC Γ) 92 stringslite_Index_out γ92
theorem T90 (Γ : Fun) (γ92 : Gm (Int)) (Λ2 J : Lam) (p0 : Str) (p1 : Str) : bodyC SE (C90 Γ γ92) Λ2 J 90 [.d (.str p0), .d (.str p1)] [] [] =
  γ92 [.d (.str p0), .d (.str p1)] [] [] fun r0 =>
  cond (decide (r0 ≥ 0)) (
   cond (decide (0 ≤ r0) && decide (r0 ≤ ((List.length p0) : Int))) (
    cond (decide (0 ≤ (IntKind.wrap .i64 (r0 + (List.length p1 : Int)))) && decide ((IntKind.wrap .i64 (r0 + (List.length p1 : Int))) ≤ ((List.length p0) : Int))) (
     (some (.ret [.d (.str (cutL p0 none (some r0))), .d (.str (cutL p0 (some (IntKind.wrap .i64 (r0 + (List.length p1 : Int)))) none)), .d (.bool true)] [] []))) none) none) (
  (some (.ret [.d (.str p0), .d (.str ([] : Str)), .d (.bool false)] [] []))) := by kernel_rfl
abbrev X90 : CFun := C90 (callG SE good) (callT SE good 92 stringslite_Index_out)
theorem Cr90 : C90 (callG SE good) (callT SE good 92 stringslite_Index_out) = bindC (callG SE good) := by unfold C90; rw [updC_real (fun _ h => h)]
theorem stringslite_Cut_ok (p0 : Str) (p1 : Str) : Le (Option.map stringslite_Cut_out (stringslite_Cut p0 p1)) (callW SE 90 [.d (.str p0), .d (.str p1)] [] []) := by
  refine le_bodyC Cr90 ?_
  refine Le.trans ?_ (le_of_eq (T90 _ _ _ _  p0 p1).symm)
  unfold stringslite_Cut
  refine le_call (good := good) (fun y => ⟨y, rfl⟩) stringslite_Index_inj (stringslite_Index_ok p0 p1) (fun r0 _ => ?_)
  refine le_cond rfl (fun _ => ?_) (fun _ => ?_)
  · skip
    refine le_cond rfl (fun _ => ?_) (fun _ => le_none)
    refine le_cond rfl (fun _ => ?_) (fun _ => le_none)
    exact le_ret (by first | rfl | (simp only [EN, stringslite_Cut_out]; done) | (simp only [EN, stringslite_Cut_out]; rfl))
  · skip
    exact le_ret (by first | rfl | (simp only [EN, stringslite_Cut_out]; done) | (simp only [EN, stringslite_Cut_out]; rfl))
def C86 (Γ : Fun) (γ90 : Gm (Str × Str × Bool)) : CFun := updC (bindC Γ) 90 stringslite_Cut_out γ90
theorem T86 (Γ : Fun) (γ90 : Gm (Str × Str × Bool)) (Λ2 J : Lam) (p0 : Str) (p1 : Str) : bodyC SE (C86 Γ γ90) Λ2 J 86 [.d (.str p0), .d (.str p1)] [] [] =
  γ90 [.d (.str p0), .d (.str p1)] [] [] fun r0 =>
  (some (.ret [.d (.str r0.1), .d (.str r0.2.1), .d (.bool r0.2.2)] [] [])) := by kernel_rfl
abbrev X86 : CFun := C86 (callG SE good) (callT SE good 90 stringslite_Cut_out)
theorem Cr86 : C86 (callG SE good) (callT SE good 90 stringslite_Cut_out) = bindC (callG SE good) := by unfold C86; rw [updC_real (fun _ h => h)]
theorem strings_Cut_ok (p0 : Str) (p1 : Str) : Le (Option.map strings_Cut_out (strings_Cut p0 p1)) (callW SE 86 [.d (.str p0), .d (.str p1)] [] []) := by
  refine le_bodyC Cr86 ?_
  refine Le.trans ?_ (le_of_eq (T86 _ _ _ _  p0 p1).symm)
  unfold strings_Cut
  refine le_call (good := good) (fun y => ⟨y, rfl⟩) stringslite_Cut_inj (stringslite_Cut_ok p0 p1) (fun r0 _ => ?_)
  exact le_ret (by first | rfl | (simp only [EN, strings_Cut_out]; done) | (simp only [EN, strings_Cut_out]; rfl))
def C100 (Γ : Fun) (γ92 : Gm (Int)) : CFun := updC (bindC Γ) 92 stringslite_Index_out γ92
theorem T100 (Γ : Fun) (γ92 : Gm (Int)) (Λ2 J : Lam) (p0 : Str) (p1 : Str) : bodyC SE (C100 Γ γ92) Λ2 J 100 [.d (.str p0), .d (.str p1)] [] [] =
  γ92 [.d (.str p0), .d (.str p1)] [] [] fun r0 =>
  (some (.ret [.d (.int .i64 r0)] [] [])) := by kernel_rfl
abbrev X100 : CFun := C100 (callG SE good) (callT SE good 92 stringslite_Index_out)
theorem Cr100 : C100 (callG SE good) (callT SE good 92 stringslite_Index_out) = bindC (callG SE good) := by unfold C100; rw [updC_real (fun _ h => h)]
theorem strings_Index_ok (p0 : Str) (p1 : Str) : Le (Option.map strings_Index_out (strings_Index p0 p1)) (callW SE 100 [.d (.str p0), .d (.str p1)] [] []) := by
  refine le_bodyC Cr100 ?_
  refine Le.trans ?_ (le_of_eq (T100 _ _ _ _  p0 p1).symm)
  unfold strings_Index
  refine le_call (good := good) (fun y => ⟨y, rfl⟩) stringslite_Index_inj (stringslite_Index_ok p0 p1) (fun r0 _ => ?_)
  exact le_ret (by first | rfl | (simp only [EN, strings_Index_out]; done) | (simp only [EN, strings_Index_out]; rfl))
def C99 (Γ : Fun) (γ100 : Gm (Int)) : CFun := updC (bindC Γ) 100 strings_Index_out γ100
def R99_6 (C : CFun) (Λ2 J : Lam) (a0 : Str) (a1 : Str) (a2 : Int) : Res := lab SE C Λ2 J 99 0 [1, 1, 1, 1, 0] (stoOf [(0, .d (.str a0)), (1, .d (.str a1)), (5, .d (.int .i64 a2))] [] [] [] [])
theorem T99 (Γ : Fun) (γ100 : Gm (Int)) (Λ2 J : Lam) (p0 : Str) (p1 : Str) : bodyC SE (C99 Γ γ100) Λ2 J 99 [.d (.str p0), .d (.str p1)] [] [] =
  cond ((List.length p1 : Int) == 0) (
   none) (
  cond ((List.length p1 : Int) == 1) (
   cond (decide (0 ≤ 0) && decide (0 < (List.length p1 : Int))) (
    (some (.ret [.d (.int .i64 (Lib.countByte p0 (UInt8.ofNat (Int.toNat (UInt8.toNat (List.getD p1 (Int.toNat 0) 0) : Int))) : Int))] [] []))) none) (
  R99_6 (C99 Γ γ100) Λ2 J p0 p1 0)) := by kernel_rfl
theorem T99_6 (Γ : Fun) (γ100 : Gm (Int)) (Λ2 J : Lam) (x0 : Str) (x1 : Str) (x5 : Int) : labU SE (C99 Γ γ100) Λ2 J 99 0 [1, 1, 1, 1, 0] (stoOf [(0, .d (.str x0)), (1, .d (.str x1)), (5, .d (.int .i64 x5))] [] [] [] []) =
  γ100 [.d (.str x0), .d (.str x1)] [] [] fun r0 =>
  cond (r0 == (-1)) (
   (some (.ret [.d (.int .i64 x5)] [] []))) (
  cond (decide (0 ≤ (IntKind.wrap .i64 (r0 + (List.length x1 : Int)))) && decide ((IntKind.wrap .i64 (r0 + (List.length x1 : Int))) ≤ ((List.length x0) : Int))) (
   R99_6 (C99 Γ γ100) Λ2 J (cutL x0 (some (IntKind.wrap .i64 (r0 + (List.length x1 : Int)))) none) x1 (IntKind.wrap .i64 (x5 + 1))) none) := by kernel_rfl
abbrev X99 : CFun := C99 (callG SE good) (callT SE good 100 strings_Index_out)
theorem Cr99 : C99 (callG SE good) (callT SE good 100 strings_Index_out) = bindC (callG SE good) := by unfold C99; rw [updC_real (fun _ h => h)]
noncomputable abbrev Q99_6 (a0 : Str) (a1 : Str) (a2 : Int) : Res := R99_6 X99 (lam2 SE (callG SE good) (SE.hl 99) (SE.hr 99)) (J0 SE X99) a0 a1 a2
theorem strings_Count_l6_ok : ∀ (fu : Nat) (x0 : Str) (x1 : Str) (x5 : Int), Le (Option.map strings_Count_out (strings_Count_l6 fu x0 x1 x5)) (Q99_6 x0 x1 x5) := by
  intro fu
  induction fu with
  | zero => intros; exact le_none
  | succ fu ih =>
    intro x0 x1 x5
    refine Le.trans ?_ (le_of_eq ((lab_realC Cr99).trans (T99_6 _ _ _ _  x0 x1 x5)).symm)
    unfold strings_Count_l6
    refine le_call (good := good) (fun y => ⟨y, rfl⟩) strings_Index_inj (strings_Index_ok x0 x1) (fun r0 _ => ?_)
    refine le_cond rfl (fun _ => ?_) (fun _ => ?_)
    · skip
      exact le_ret (by first | rfl | (simp only [EN, strings_Count_out]; done) | (simp only [EN, strings_Count_out]; rfl))
    · skip
      refine le_cond rfl (fun _ => ?_) (fun _ => le_none)
      exact ih (cutL x0 (some (IntKind.wrap .i64 (r0 + (List.length x1 : Int)))) none) x1 (IntKind.wrap .i64 (x5 + 1))
theorem strings_Count_ok (p0 : Str) (p1 : Str) : Le (Option.map strings_Count_out (strings_Count p0 p1)) (callW SE 99 [.d (.str p0), .d (.str p1)] [] []) := by
  refine le_bodyC Cr99 ?_
  refine Le.trans ?_ (le_of_eq (T99 _ _ _ _  p0 p1).symm)
  unfold strings_Count
  refine le_cond rfl (fun _ => ?_) (fun _ => ?_)
  · skip
    exact le_none
  · skip
    refine le_cond rfl (fun _ => ?_) (fun _ => ?_)
    · skip
      refine le_cond rfl (fun _ => ?_) (fun _ => le_none)
      exact le_ret (by first | rfl | (simp only [EN, strings_Count_out]; done) | (simp only [EN, strings_Count_out]; rfl))
    · skip
      exact strings_Count_l6_ok fuel p0 p1 0
def C93 (Γ : Fun) (γ99 : Gm (Int)) (γ100 : Gm (Int)) : CFun := updC (updC (bindC Γ) 99 strings_Count_out γ99) 100 strings_Index_out γ100
def R93_17 (C : CFun) (Λ2 J : Lam) (a0 : Str) (a1 : Int) (a2 : (List (List D))) : Res := lab SE C Λ2 J 93 0 [1, 1, 1, 1, 1, 1, 1, 1, 1, 0] (stoOf [(0, .d (.str a0)), (9, .row 3009), (10, .d (.int .i64 a1))] [] [] [] [(3009, ⟨[.str], 9, 16, a2⟩)])
def R93_11 (C : CFun) (Λ2 J : Lam) (a0 : Str) (a1 : Str) (a2 : Int) (a3 : Int) (a4 : Int) (a5 : (List (List D))) : Res := lab SE C Λ2 J 93 0 [1, 1, 1, 1, 1, 1, 1, 1, 0, 0] (stoOf [(0, .d (.str a0)), (1, .d (.str a1)), (2, .d (.int .i64 a2)), (3, .d (.int .i64 a3)), (9, .row 3009), (10, .d (.int .i64 a4))] [] [] [] [(3009, ⟨[.str], 9, 16, a5⟩)])
def R93_7 (C : CFun) (Λ2 J : Lam) (a0 : Str) (a1 : Str) (a2 : Int) (a3 : Int) : Res := lab SE C Λ2 J 93 0 [1, 1, 1, 1, 0] (stoOf [(0, .d (.str a0)), (1, .d (.str a1)), (2, .d (.int .i64 a2)), (3, .d (.int .i64 a3))] [] [] [] [])
theorem T93 (Γ : Fun) (γ99 : Gm (Int)) (γ100 : Gm (Int)) (Λ2 J : Lam) (p0 : Str) (p1 : Str) (p2 : Int) (p3 : Int) : bodyC SE (C93 Γ γ99 γ100) Λ2 J 93 [.d (.str p0), .d (.str p1), .d (.int .i64 p2), .d (.int .i64 p3)] [] [] =
  cond (p3 == 0) (
   (some (.ret [.d (.sl [.str] (List.map encS []))] [] []))) (
  cond (p1 == ([] : Str)) (
   none) (
  cond (decide (p3 < 0)) (
   γ99 [.d (.str p0), .d (.str p1)] [] [] fun r0 =>
   R93_7 (C93 Γ γ99 γ100) Λ2 J p0 p1 p2 (IntKind.wrap .i64 (r0 + 1))) (
  R93_7 (C93 Γ γ99 γ100) Λ2 J p0 p1 p2 p3))) := by kernel_rfl
theorem T93_17 (Γ : Fun) (γ99 : Gm (Int)) (γ100 : Gm (Int)) (Λ2 J : Lam) (x0 : Str) (x10 : Int) (w3009 : (List Str)) : labU SE (C93 Γ γ99 γ100) Λ2 J 93 0 [1, 1, 1, 1, 1, 1, 1, 1, 1, 0] (stoOf [(0, .d (.str x0)), (9, .row 3009), (10, .d (.int .i64 x10))] [] [] [] [(3009, ⟨[.str], 9, 16, (List.map encS w3009)⟩)]) =
  cond (decide (0 ≤ x10) && decide (x10 < (List.length (List.map encS w3009) : Int))) (
   cond (decide (0 ≤ (IntKind.wrap .i64 (x10 + 1))) && decide ((IntKind.wrap .i64 (x10 + 1)) ≤ ((List.length (setE (List.map encS w3009) (Int.toNat x10) 0 [D.str x0])) : Int))) (
    (some (.ret [.d (.sl [.str] (List.take ((Int.toNat (IntKind.wrap .i64 (x10 + 1))) - 0) (List.drop 0 (setE (List.map encS w3009) (Int.toNat x10) 0 [D.str x0]))))] [] []))) none) none := by kernel_rfl
theorem T93_11 (Γ : Fun) (γ99 : Gm (Int)) (γ100 : Gm (Int)) (Λ2 J : Lam) (x0 : Str) (x1 : Str) (x2 : Int) (x3 : Int) (x10 : Int) (w3009 : (List Str)) : labU SE (C93 Γ γ99 γ100) Λ2 J 93 0 [1, 1, 1, 1, 1, 1, 1, 1, 0, 0] (stoOf [(0, .d (.str x0)), (1, .d (.str x1)), (2, .d (.int .i64 x2)), (3, .d (.int .i64 x3)), (9, .row 3009), (10, .d (.int .i64 x10))] [] [] [] [(3009, ⟨[.str], 9, 16, (List.map encS w3009)⟩)]) =
  cond (decide (x10 < x3)) (
   γ100 [.d (.str x0), .d (.str x1)] [] [] fun r1 =>
   cond (decide (r1 < 0)) (
    R93_17 (C93 Γ γ99 γ100) Λ2 J x0 x10 (List.map encS w3009)) (
   cond (decide (0 ≤ (IntKind.wrap .i64 (r1 + x2))) && decide ((IntKind.wrap .i64 (r1 + x2)) ≤ ((List.length x0) : Int))) (
    cond (decide (0 ≤ x10) && decide (x10 < (List.length (List.map encS w3009) : Int))) (
     cond (decide (0 ≤ (IntKind.wrap .i64 (r1 + (List.length x1 : Int)))) && decide ((IntKind.wrap .i64 (r1 + (List.length x1 : Int))) ≤ ((List.length x0) : Int))) (
      R93_11 (C93 Γ γ99 γ100) Λ2 J (cutL x0 (some (IntKind.wrap .i64 (r1 + (List.length x1 : Int)))) none) x1 x2 x3 (IntKind.wrap .i64 (x10 + 1)) ((setE (List.map encS w3009) (Int.toNat x10) 0 [D.str (cutL x0 none (some (IntKind.wrap .i64 (r1 + x2))))]))) none) none) none)) (
  R93_17 (C93 Γ γ99 γ100) Λ2 J x0 x10 (List.map encS w3009)) := by kernel_rfl
theorem T93_7 (Γ : Fun) (γ99 : Gm (Int)) (γ100 : Gm (Int)) (Λ2 J : Lam) (x0 : Str) (x1 : Str) (x2 : Int) (x3 : Int) : labU SE (C93 Γ γ99 γ100) Λ2 J 93 0 [1, 1, 1, 1, 0] (stoOf [(0, .d (.str x0)), (1, .d (.str x1)), (2, .d (.int .i64 x2)), (3, .d (.int .i64 x3))] [] [] [] []) =
  cond (decide (0 ≤ (if (IntKind.wrap .i64 ((List.length x0 : Int) + 1)) < x3 then (IntKind.wrap .i64 ((List.length x0 : Int) + 1)) else x3)) && decide ((if (IntKind.wrap .i64 ((List.length x0 : Int) + 1)) < x3 then (IntKind.wrap .i64 ((List.length x0 : Int) + 1)) else x3) ≤ (if (IntKind.wrap .i64 ((List.length x0 : Int) + 1)) < x3 then (IntKind.wrap .i64 ((List.length x0 : Int) + 1)) else x3)) && decide ((if (IntKind.wrap .i64 ((List.length x0 : Int) + 1)) < x3 then (IntKind.wrap .i64 ((List.length x0 : Int) + 1)) else x3) * 16 ≤ 281474976710656)) (
   R93_11 (C93 Γ γ99 γ100) Λ2 J x0 x1 x2 ((IntKind.wrap .i64 ((if (IntKind.wrap .i64 ((List.length x0 : Int) + 1)) < x3 then (IntKind.wrap .i64 ((List.length x0 : Int) + 1)) else x3) - 1))) 0 ((List.replicate (Int.toNat (if (IntKind.wrap .i64 ((List.length x0 : Int) + 1)) < x3 then (IntKind.wrap .i64 ((List.length x0 : Int) + 1)) else x3)) [D.str ([] : Str)]))) none := by kernel_rfl
abbrev X93 : CFun := C93 (callG SE good) (callT SE good 99 strings_Count_out) (callT SE good 100 strings_Index_out)
theorem Cr93 : C93 (callG SE good) (callT SE good 99 strings_Count_out) (callT SE good 100 strings_Index_out) = bindC (callG SE good) := by unfold C93; rw [updC_real (fun _ h => h), updC_real (fun _ h => h)]
noncomputable abbrev Q93_17 (a0 : Str) (a1 : Int) (a2 : (List (List D))) : Res := R93_17 X93 (lam2 SE (callG SE good) (SE.hl 93) (SE.hr 93)) (J0 SE X93) a0 a1 a2
noncomputable abbrev Q93_11 (a0 : Str) (a1 : Str) (a2 : Int) (a3 : Int) (a4 : Int) (a5 : (List (List D))) : Res := R93_11 X93 (lam2 SE (callG SE good) (SE.hl 93) (SE.hr 93)) (J0 SE X93) a0 a1 a2 a3 a4 a5
noncomputable abbrev Q93_7 (a0 : Str) (a1 : Str) (a2 : Int) (a3 : Int) : Res := R93_7 X93 (lam2 SE (callG SE good) (SE.hl 93) (SE.hr 93)) (J0 SE X93) a0 a1 a2 a3
theorem strings_genSplit_j17_ok (x0 : Str) (x10 : Int) (w3009 : (List Str)) : Le (Option.map strings_genSplit_out (strings_genSplit_j17 x0 x10 w3009)) (Q93_17 x0 x10 (List.map encS w3009)) := by
  refine Le.trans ?_ (le_of_eq ((lab_realC Cr93).trans (T93_17 _ _ _ _ _  x0 x10 w3009)).symm)
  unfold strings_genSplit_j17
  refine le_cond (by simp only [EN]) (fun _ => ?_) (fun _ => le_none)
  refine le_cond (by simp only [EN]) (fun _ => ?_) (fun _ => le_none)
  exact le_ret (by first | rfl | (simp only [EN, strings_genSplit_out]; done) | (simp only [EN, strings_genSplit_out]; rfl))
theorem strings_genSplit_l11_ok : ∀ (fu : Nat) (x0 : Str) (x1 : Str) (x2 : Int) (x3 : Int) (x10 : Int) (w3009 : (List Str)), Le (Option.map strings_genSplit_out (strings_genSplit_l11 fu x0 x1 x2 x3 x10 w3009)) (Q93_11 x0 x1 x2 x3 x10 (List.map encS w3009)) := by
  intro fu
  induction fu with
  | zero => intros; exact le_none
  | succ fu ih =>
    intro x0 x1 x2 x3 x10 w3009
    refine Le.trans ?_ (le_of_eq ((lab_realC Cr93).trans (T93_11 _ _ _ _ _  x0 x1 x2 x3 x10 w3009)).symm)
    unfold strings_genSplit_l11
    refine le_cond rfl (fun _ => ?_) (fun _ => ?_)
    · skip
      refine le_call (good := good) (fun y => ⟨y, rfl⟩) strings_Index_inj (strings_Index_ok x0 x1) (fun r1 _ => ?_)
      refine le_cond rfl (fun _ => ?_) (fun _ => ?_)
      · skip
        exact strings_genSplit_j17_ok x0 x10 w3009
      · skip
        refine le_cond rfl (fun _ => ?_) (fun _ => le_none)
        refine le_cond (by simp only [EN]) (fun _ => ?_) (fun _ => le_none)
        refine le_cond rfl (fun _ => ?_) (fun _ => le_none)
        first | (simp only [EN]; exact ih (cutL x0 (some (IntKind.wrap .i64 (r1 + (List.length x1 : Int)))) none) x1 x2 x3 (IntKind.wrap .i64 (x10 + 1)) ((List.set w3009 (Int.toNat x10) (cutL x0 none (some (IntKind.wrap .i64 (r1 + x2))))))) | exact ih (cutL x0 (some (IntKind.wrap .i64 (r1 + (List.length x1 : Int)))) none) x1 x2 x3 (IntKind.wrap .i64 (x10 + 1)) ((List.set w3009 (Int.toNat x10) (cutL x0 none (some (IntKind.wrap .i64 (r1 + x2))))))
    · skip
      exact strings_genSplit_j17_ok x0 x10 w3009
theorem strings_genSplit_j7_ok (x0 : Str) (x1 : Str) (x2 : Int) (x3 : Int) : Le (Option.map strings_genSplit_out (strings_genSplit_j7 x0 x1 x2 x3)) (Q93_7 x0 x1 x2 x3) := by
  refine Le.trans ?_ (le_of_eq ((lab_realC Cr93).trans (T93_7 _ _ _ _ _  x0 x1 x2 x3)).symm)
  unfold strings_genSplit_j7
  refine le_cond rfl (fun _ => ?_) (fun _ => le_none)
  first | (simp only [EN]; exact strings_genSplit_l11_ok fuel x0 x1 x2 ((IntKind.wrap .i64 ((if (IntKind.wrap .i64 ((List.length x0 : Int) + 1)) < x3 then (IntKind.wrap .i64 ((List.length x0 : Int) + 1)) else x3) - 1))) 0 ((List.replicate (Int.toNat (if (IntKind.wrap .i64 ((List.length x0 : Int) + 1)) < x3 then (IntKind.wrap .i64 ((List.length x0 : Int) + 1)) else x3)) default))) | exact strings_genSplit_l11_ok fuel x0 x1 x2 ((IntKind.wrap .i64 ((if (IntKind.wrap .i64 ((List.length x0 : Int) + 1)) < x3 then (IntKind.wrap .i64 ((List.length x0 : Int) + 1)) else x3) - 1))) 0 ((List.replicate (Int.toNat (if (IntKind.wrap .i64 ((List.length x0 : Int) + 1)) < x3 then (IntKind.wrap .i64 ((List.length x0 : Int) + 1)) else x3)) default))
theorem strings_genSplit_ok (p0 : Str) (p1 : Str) (p2 : Int) (p3 : Int) : Le (Option.map strings_genSplit_out (strings_genSplit p0 p1 p2 p3)) (callW SE 93 [.d (.str p0), .d (.str p1), .d (.int .i64 p2), .d (.int .i64 p3)] [] []) := by
  refine le_bodyC Cr93 ?_
  refine Le.trans ?_ (le_of_eq (T93 _ _ _ _ _  p0 p1 p2 p3).symm)
  unfold strings_genSplit
  refine le_cond rfl (fun _ => ?_) (fun _ => ?_)
  · skip
    exact le_ret (by first | rfl | (simp only [EN, strings_genSplit_out]; done) | (simp only [EN, strings_genSplit_out]; rfl))
  · skip
    refine le_cond rfl (fun _ => ?_) (fun _ => ?_)
    · skip
      exact le_none
    · skip
      refine le_cond rfl (fun _ => ?_) (fun _ => ?_)
      · skip
        refine le_call (good := good) (fun y => ⟨y, rfl⟩) strings_Count_inj (strings_Count_ok p0 p1) (fun r0 _ => ?_)
        exact strings_genSplit_j7_ok p0 p1 p2 (IntKind.wrap .i64 (r0 + 1))
      · skip
        exact strings_genSplit_j7_ok p0 p1 p2 p3
def C91 (Γ : Fun) (γ93 : Gm ((List Str))) : CFun := updC (bindC Γ) 93 strings_genSplit_out γ93
theorem T91 (Γ : Fun) (γ93 : Gm ((List Str))) (Λ2 J : Lam) (p0 : Str) (p1 : Str) : bodyC SE (C91 Γ γ93) Λ2 J 91 [.d (.str p0), .d (.str p1)] [] [] =
  γ93 [.d (.str p0), .d (.str p1), .d (.int .i64 0), .d (.int .i64 (-1))] [] [] fun r0 =>
  (some (.ret [.d (.sl [.str] (List.map encS r0))] [] [])) := by kernel_rfl
abbrev X91 : CFun := C91 (callG SE good) (callT SE good 93 strings_genSplit_out)
theorem Cr91 : C91 (callG SE good) (callT SE good 93 strings_genSplit_out) = bindC (callG SE good) := by unfold C91; rw [updC_real (fun _ h => h)]
theorem strings_Split_ok (p0 : Str) (p1 : Str) : Le (Option.map strings_Split_out (strings_Split p0 p1)) (callW SE 91 [.d (.str p0), .d (.str p1)] [] []) := by
  refine le_bodyC Cr91 ?_
  refine Le.trans ?_ (le_of_eq (T91 _ _ _ _  p0 p1).symm)
  unfold strings_Split
  refine le_call (good := good) (fun y => ⟨y, rfl⟩) strings_genSplit_inj (strings_genSplit_ok p0 p1 0 (-1)) (fun r0 _ => ?_)
  exact le_ret (by first | rfl | (simp only [EN, strings_Split_out]; done) | (simp only [EN, strings_Split_out]; rfl))
def C87 (Γ : Fun) (γ91 : Gm ((List Str))) : CFun := updC (bindC Γ) 91 strings_Split_out γ91
theorem T87 (Γ : Fun) (γ91 : Gm ((List Str))) (Λ2 J : Lam) (p0 : Str) : bodyC SE (C87 Γ γ91) Λ2 J 87 [.d (.str p0)] [] [] =
  γ91 [.d (.str p0), .d (.str ([47] : Str))] [] [] fun r0 =>
  (some (.ret [.d (.sl [.str] (List.map encS r0))] [] [])) := by kernel_rfl
abbrev X87 : CFun := C87 (callG SE good) (callT SE good 91 strings_Split_out)
theorem Cr87 : C87 (callG SE good) (callT SE good 91 strings_Split_out) = bindC (callG SE good) := by unfold C87; rw [updC_real (fun _ h => h)]
theorem topic_Levels_ok (p0 : Str) : Le (Option.map topic_Levels_out (topic_Levels p0)) (callW SE 87 [.d (.str p0)] [] []) := by
  refine le_bodyC Cr87 ?_
  refine Le.trans ?_ (le_of_eq (T87 _ _ _ _  p0).symm)
  unfold topic_Levels
  refine le_call (good := good) (fun y => ⟨y, rfl⟩) strings_Split_inj (strings_Split_ok p0 ([47] : Str)) (fun r0 _ => ?_)
  exact le_ret (by first | rfl | (simp only [EN, topic_Levels_out]; done) | (simp only [EN, topic_Levels_out]; rfl))
def C77 (Γ : Fun) (γ83 : Gm (Bool)) (γ87 : Gm ((List Str))) : CFun := updC (updC (bindC Γ) 83 topic_sized_out γ83) 87 topic_Levels_out γ87
def R77_9 (C : CFun) (Λ2 J : Lam) (a0 : (List (List D))) (a1 : Bool) (a2 : Int) (a3 : Str) (a4 : (List (List D))) (a5 : Int) (a6 : Int) (a7 : Str) (a8 : Nat) : Res := lab SE C Λ2 J 77 0 [1, 0, 1, 1, 1, 1, 0, 1, 0, 0, 1, 1, 0, 0, 1, 1, 0] (stoOf [(3, .d (.sl [.str] a0)), (4, .d (.bool a1)), (5, .d (.int .i64 a2)), (6, .d (.str a3)), (15, .d (.sl [.str] a4)), (16, .d (.int .i64 a5)), (17, .d (.int .i64 a6)), (23, .it 4000)] [] [] [(4000, (a7, a8))] [])
def R77_6 (C : CFun) (Λ2 J : Lam) (a0 : (List (List D))) (a1 : Bool) (a2 : (List (List D))) (a3 : Int) (a4 : Int) : Res := lab SE C Λ2 J 77 0 [1, 0, 1, 1, 1, 1, 0, 1, 0] (stoOf [(3, .d (.sl [.str] a0)), (4, .d (.bool a1)), (15, .d (.sl [.str] a2)), (16, .d (.int .i64 a3)), (17, .d (.int .i64 a4))] [] [] [] [])
theorem T77 (Γ : Fun) (γ83 : Gm (Bool)) (γ87 : Gm ((List Str))) (Λ2 J : Lam) (p0 : Str) : bodyC SE (C77 Γ γ83 γ87) Λ2 J 77 [.d (.str p0)] [] [] =
  γ83 [.d (.str p0)] [] [] fun r0 =>
  cond (!r0) (
   (some (.ret [.d (.bool false)] [] []))) (
  γ87 [.d (.str p0)] [] [] fun r1 =>
  R77_6 (C77 Γ γ83 γ87) Λ2 J (List.map encS r1) true (List.map encS r1) (List.length (List.map encS r1) : Int) 0) := by kernel_rfl
theorem T77_9 (Γ : Fun) (γ83 : Gm (Bool)) (γ87 : Gm ((List Str))) (Λ2 J : Lam) (x3 : (List Str)) (x4 : Bool) (x5 : Int) (x6 : Str) (x15 : (List Str)) (x16 : Int) (x17 : Int) (s4000 : Str) (i4000 : Nat) : labU SE (C77 Γ γ83 γ87) Λ2 J 77 0 [1, 0, 1, 1, 1, 1, 0, 1, 0, 0, 1, 1, 0, 0, 1, 1, 0] (stoOf [(3, .d (.sl [.str] (List.map encS x3))), (4, .d (.bool x4)), (5, .d (.int .i64 x5)), (6, .d (.str x6)), (15, .d (.sl [.str] (List.map encS x15))), (16, .d (.int .i64 x16)), (17, .d (.int .i64 x17)), (23, .it 4000)] [] [] [(4000, (s4000, i4000))] []) =
  cond (decide (i4000 < List.length s4000)) (
   cond (((dec s4000 i4000).1 : Int) == 43) (
    cond (!((List.length x6 : Int) == 1)) (
     (some (.ret [.d (.bool false)] [] []))) (
    cond (((dec s4000 i4000).1 : Int) == 35) (
     cond (!((List.length x6 : Int) == 1)) (
      (some (.ret [.d (.bool false)] [] []))) (
     cond (decide (x5 < (IntKind.wrap .i64 ((List.length (List.map encS x3) : Int) - 1)))) (
      (some (.ret [.d (.bool false)] [] []))) (
     R77_9 (C77 Γ γ83 γ87) Λ2 J (List.map encS x3) x4 x5 x6 (List.map encS x15) x16 x17 s4000 (i4000 + (dec s4000 i4000).2)))) (
    R77_9 (C77 Γ γ83 γ87) Λ2 J (List.map encS x3) x4 x5 x6 (List.map encS x15) x16 x17 s4000 (i4000 + (dec s4000 i4000).2)))) (
   cond (((dec s4000 i4000).1 : Int) == 35) (
    cond (!((List.length x6 : Int) == 1)) (
     (some (.ret [.d (.bool false)] [] []))) (
    cond (decide (x5 < (IntKind.wrap .i64 ((List.length (List.map encS x3) : Int) - 1)))) (
     (some (.ret [.d (.bool false)] [] []))) (
    R77_9 (C77 Γ γ83 γ87) Λ2 J (List.map encS x3) x4 x5 x6 (List.map encS x15) x16 x17 s4000 (i4000 + (dec s4000 i4000).2)))) (
   R77_9 (C77 Γ γ83 γ87) Λ2 J (List.map encS x3) x4 x5 x6 (List.map encS x15) x16 x17 s4000 (i4000 + (dec s4000 i4000).2)))) (
  R77_6 (C77 Γ γ83 γ87) Λ2 J (List.map encS x3) x4 (List.map encS x15) x16 (IntKind.wrap .i64 (x17 + 1))) := by kernel_rfl
theorem T77_6 (Γ : Fun) (γ83 : Gm (Bool)) (γ87 : Gm ((List Str))) (Λ2 J : Lam) (x3 : (List Str)) (x4 : Bool) (x15 : (List Str)) (x16 : Int) (x17 : Int) : labU SE (C77 Γ γ83 γ87) Λ2 J 77 0 [1, 0, 1, 1, 1, 1, 0, 1, 0] (stoOf [(3, .d (.sl [.str] (List.map encS x3))), (4, .d (.bool x4)), (15, .d (.sl [.str] (List.map encS x15))), (16, .d (.int .i64 x16)), (17, .d (.int .i64 x17))] [] [] [] []) =
  cond (decide (x17 < x16)) (
   cond (decide (0 ≤ x17) && decide (x17 < (List.length (List.map encS x15) : Int))) (
    R77_9 (C77 Γ γ83 γ87) Λ2 J (List.map encS x3) x4 x17 ((dStr (cellAt (elemAt (List.map encS x15) (Int.toNat x17)) 0))) (List.map encS x15) x16 x17 ((dStr (cellAt (elemAt (List.map encS x15) (Int.toNat x17)) 0))) 0) none) (
  (some (.ret [.d (.bool x4)] [] []))) := by kernel_rfl
abbrev X77 : CFun := C77 (callG SE good) (callT SE good 83 topic_sized_out) (callT SE good 87 topic_Levels_out)
theorem Cr77 : C77 (callG SE good) (callT SE good 83 topic_sized_out) (callT SE good 87 topic_Levels_out) = bindC (callG SE good) := by unfold C77; rw [updC_real (fun _ h => h), updC_real (fun _ h => h)]
noncomputable abbrev Q77_9 (a0 : (List (List D))) (a1 : Bool) (a2 : Int) (a3 : Str) (a4 : (List (List D))) (a5 : Int) (a6 : Int) (a7 : Str) (a8 : Nat) : Res := R77_9 X77 (lam2 SE (callG SE good) (SE.hl 77) (SE.hr 77)) (J0 SE X77) a0 a1 a2 a3 a4 a5 a6 a7 a8
noncomputable abbrev Q77_6 (a0 : (List (List D))) (a1 : Bool) (a2 : (List (List D))) (a3 : Int) (a4 : Int) : Res := R77_6 X77 (lam2 SE (callG SE good) (SE.hl 77) (SE.hr 77)) (J0 SE X77) a0 a1 a2 a3 a4
theorem topic_Filter_l9_ok : ∀ (fu : Nat) (k6 : (List Str) → Bool → (List Str) → Int → Int → Option (Bool)) (hk6 : ∀ (x3 : (List Str)) (x4 : Bool) (x15 : (List Str)) (x16 : Int) (x17 : Int), Le (Option.map topic_Filter_out (k6 x3 x4 x15 x16 x17)) (Q77_6 (List.map encS x3) x4 (List.map encS x15) x16 x17)) (x3 : (List Str)) (x4 : Bool) (x5 : Int) (x6 : Str) (x15 : (List Str)) (x16 : Int) (x17 : Int) (s4000 : Str) (i4000 : Nat), Le (Option.map topic_Filter_out (topic_Filter_l9 fu k6 x3 x4 x5 x6 x15 x16 x17 s4000 i4000)) (Q77_9 (List.map encS x3) x4 x5 x6 (List.map encS x15) x16 x17 s4000 i4000) := by
  intro fu
  induction fu with
  | zero => intros; exact le_none
  | succ fu ih =>
    intro k6 hk6 x3 x4 x5 x6 x15 x16 x17 s4000 i4000
    refine Le.trans ?_ (le_of_eq ((lab_realC Cr77).trans (T77_9 _ _ _ _ _  x3 x4 x5 x6 x15 x16 x17 s4000 i4000)).symm)
    unfold topic_Filter_l9
    refine le_cond rfl (fun _ => ?_) (fun _ => ?_)
    · skip
      refine le_cond rfl (fun _ => ?_) (fun _ => ?_)
      · skip
        refine le_cond rfl (fun _ => ?_) (fun _ => ?_)
        · skip
          exact le_ret (by first | rfl | (simp only [EN, topic_Filter_out]; done) | (simp only [EN, topic_Filter_out]; rfl))
        · skip
          refine le_cond rfl (fun _ => ?_) (fun _ => ?_)
          · skip
            refine le_cond rfl (fun _ => ?_) (fun _ => ?_)
            · skip
              exact le_ret (by first | rfl | (simp only [EN, topic_Filter_out]; done) | (simp only [EN, topic_Filter_out]; rfl))
            · skip
              refine le_cond (by simp only [EN]) (fun _ => ?_) (fun _ => ?_)
              · skip
                exact le_ret (by first | rfl | (simp only [EN, topic_Filter_out]; done) | (simp only [EN, topic_Filter_out]; rfl))
              · skip
                exact ih _ hk6 x3 x4 x5 x6 x15 x16 x17 s4000 (i4000 + (dec s4000 i4000).2)
          · skip
            exact ih _ hk6 x3 x4 x5 x6 x15 x16 x17 s4000 (i4000 + (dec s4000 i4000).2)
      · skip
        refine le_cond rfl (fun _ => ?_) (fun _ => ?_)
        · skip
          refine le_cond rfl (fun _ => ?_) (fun _ => ?_)
          · skip
            exact le_ret (by first | rfl | (simp only [EN, topic_Filter_out]; done) | (simp only [EN, topic_Filter_out]; rfl))
          · skip
            refine le_cond (by simp only [EN]) (fun _ => ?_) (fun _ => ?_)
            · skip
              exact le_ret (by first | rfl | (simp only [EN, topic_Filter_out]; done) | (simp only [EN, topic_Filter_out]; rfl))
            · skip
              exact ih _ hk6 x3 x4 x5 x6 x15 x16 x17 s4000 (i4000 + (dec s4000 i4000).2)
        · skip
          exact ih _ hk6 x3 x4 x5 x6 x15 x16 x17 s4000 (i4000 + (dec s4000 i4000).2)
    · skip
      exact hk6 x3 x4 x15 x16 (IntKind.wrap .i64 (x17 + 1))
theorem topic_Filter_l6_ok : ∀ (fu : Nat) (x3 : (List Str)) (x4 : Bool) (x15 : (List Str)) (x16 : Int) (x17 : Int), Le (Option.map topic_Filter_out (topic_Filter_l6 fu x3 x4 x15 x16 x17)) (Q77_6 (List.map encS x3) x4 (List.map encS x15) x16 x17) := by
  intro fu
  induction fu with
  | zero => intros; exact le_none
  | succ fu ih =>
    intro x3 x4 x15 x16 x17
    refine Le.trans ?_ (le_of_eq ((lab_realC Cr77).trans (T77_6 _ _ _ _ _  x3 x4 x15 x16 x17)).symm)
    unfold topic_Filter_l6
    refine le_cond rfl (fun _ => ?_) (fun _ => ?_)
    · skip
      refine le_cond (by simp only [EN]) (fun _ => ?_) (fun _ => le_none)
      first | (simp only [EN]; exact topic_Filter_l9_ok fuel _ (ih) x3 x4 x17 (List.getD x15 (Int.toNat x17) default) x15 x16 x17 (List.getD x15 (Int.toNat x17) default) 0) | exact topic_Filter_l9_ok fuel _ (ih) x3 x4 x17 (List.getD x15 (Int.toNat x17) default) x15 x16 x17 (List.getD x15 (Int.toNat x17) default) 0
    · skip
      exact le_ret (by first | rfl | (simp only [EN, topic_Filter_out]; done) | (simp only [EN, topic_Filter_out]; rfl))
theorem topic_Filter_ok (p0 : Str) : Le (Option.map topic_Filter_out (topic_Filter p0)) (callW SE 77 [.d (.str p0)] [] []) := by
  refine le_bodyC Cr77 ?_
  refine Le.trans ?_ (le_of_eq (T77 _ _ _ _ _  p0).symm)
  unfold topic_Filter
  refine le_call (good := good) (fun y => ⟨y, rfl⟩) topic_sized_inj (topic_sized_ok p0) (fun r0 _ => ?_)
  refine le_cond rfl (fun _ => ?_) (fun _ => ?_)
  · skip
    exact le_ret (by first | rfl | (simp only [EN, topic_Filter_out]; done) | (simp only [EN, topic_Filter_out]; rfl))
  · skip
    refine le_call (good := good) (fun y => ⟨y, rfl⟩) topic_Levels_inj (topic_Levels_ok p0) (fun r1 _ => ?_)
    first | (simp only [EN]; exact topic_Filter_l6_ok fuel r1 true r1 (List.length r1 : Int) 0) | exact topic_Filter_l6_ok fuel r1 true r1 (List.length r1 : Int) 0
def C78 (Γ : Fun) (γ88 : Gm (Bool)) : CFun := updC (bindC Γ) 88 stringslite_HasPrefix_out γ88
theorem T78 (Γ : Fun) (γ88 : Gm (Bool)) (Λ2 J : Lam) (p0 : Str) (p1 : Str) : bodyC SE (C78 Γ γ88) Λ2 J 78 [.d (.str p0), .d (.str p1)] [] [] =
  γ88 [.d (.str p0), .d (.str p1)] [] [] fun r0 =>
  (some (.ret [.d (.bool r0)] [] [])) := by kernel_rfl
abbrev X78 : CFun := C78 (callG SE good) (callT SE good 88 stringslite_HasPrefix_out)
theorem Cr78 : C78 (callG SE good) (callT SE good 88 stringslite_HasPrefix_out) = bindC (callG SE good) := by unfold C78; rw [updC_real (fun _ h => h)]
theorem strings_HasPrefix_ok (p0 : Str) (p1 : Str) : Le (Option.map strings_HasPrefix_out (strings_HasPrefix p0 p1)) (callW SE 78 [.d (.str p0), .d (.str p1)] [] []) := by
  refine le_bodyC Cr78 ?_
  refine Le.trans ?_ (le_of_eq (T78 _ _ _ _  p0 p1).symm)
  unfold strings_HasPrefix
  refine le_call (good := good) (fun y => ⟨y, rfl⟩) stringslite_HasPrefix_inj (stringslite_HasPrefix_ok p0 p1) (fun r0 _ => ?_)
  exact le_ret (by first | rfl | (simp only [EN, strings_HasPrefix_out]; done) | (simp only [EN, strings_HasPrefix_out]; rfl))
def C76 (Γ : Fun) (γ85 : Gm (Str × Bool)) (γ86 : Gm (Str × Str × Bool)) (γ36 : Gm (Bool)) (γ77 : Gm (Bool)) (γ78 : Gm (Bool)) : CFun := updC (updC (updC (updC (updC (bindC Γ) 85 strings_CutPrefix_out γ85) 86 strings_Cut_out γ86) 36 topic_Name_out γ36) 77 topic_Filter_out γ77) 78 strings_HasPrefix_out γ78
theorem T76 (Γ : Fun) (γ85 : Gm (Str × Bool)) (γ86 : Gm (Str × Str × Bool)) (γ36 : Gm (Bool)) (γ77 : Gm (Bool)) (γ78 : Gm (Bool)) (Λ2 J : Lam) (p0 : Str) : bodyC SE (C76 Γ γ85 γ86 γ36 γ77 γ78) Λ2 J 76 [.d (.str p0)] [] [] =
  γ85 [.d (.str p0), .d (.str ([36, 115, 104, 97, 114, 101, 47] : Str))] [] [] fun r0 =>
  cond (!r0.2) (
   (some (.ret [.d (.str ([] : Str)), .d (.str ([] : Str)), .d (.bool false)] [] []))) (
  γ86 [.d (.str r0.1), .d (.str ([47] : Str))] [] [] fun r1 =>
  cond (!r1.2.2) (
   (some (.ret [.d (.str ([] : Str)), .d (.str ([] : Str)), .d (.bool false)] [] []))) (
  γ36 [.d (.str r1.1)] [] [] fun r2 =>
  cond (!r2) (
   (some (.ret [.d (.str ([] : Str)), .d (.str ([] : Str)), .d (.bool false)] [] []))) (
  γ77 [.d (.str r1.2.1)] [] [] fun r3 =>
  cond (!r3) (
   (some (.ret [.d (.str ([] : Str)), .d (.str ([] : Str)), .d (.bool false)] [] []))) (
  γ78 [.d (.str r1.2.1), .d (.str ([36, 115, 104, 97, 114, 101, 47] : Str))] [] [] fun r4 =>
  cond r4 (
   (some (.ret [.d (.str ([] : Str)), .d (.str ([] : Str)), .d (.bool false)] [] []))) (
  (some (.ret [.d (.str r1.1), .d (.str r1.2.1), .d (.bool true)] [] []))))))) := by kernel_rfl
abbrev X76 : CFun := C76 (callG SE good) (callT SE good 85 strings_CutPrefix_out) (callT SE good 86 strings_Cut_out) (callT SE good 36 topic_Name_out) (callT SE good 77 topic_Filter_out) (callT SE good 78 strings_HasPrefix_out)
theorem Cr76 : C76 (callG SE good) (callT SE good 85 strings_CutPrefix_out) (callT SE good 86 strings_Cut_out) (callT SE good 36 topic_Name_out) (callT SE good 77 topic_Filter_out) (callT SE good 78 strings_HasPrefix_out) = bindC (callG SE good) := by unfold C76; rw [updC_real (fun _ h => h), updC_real (fun _ h => h), updC_real (fun _ h => h), updC_real (fun _ h => h), updC_real (fun _ h => h)]
theorem topic_Shared_ok (p0 : Str) : Le (Option.map topic_Shared_out (topic_Shared p0)) (callW SE 76 [.d (.str p0)] [] []) := by
  refine le_bodyC Cr76 ?_
  refine Le.trans ?_ (le_of_eq (T76 _ _ _ _ _ _ _ _  p0).symm)
  unfold topic_Shared
  refine le_call (good := good) (fun y => ⟨y, rfl⟩) strings_CutPrefix_inj (strings_CutPrefix_ok p0 ([36, 115, 104, 97, 114, 101, 47] : Str)) (fun r0 _ => ?_)
  refine le_cond rfl (fun _ => ?_) (fun _ => ?_)
  · skip
    exact le_ret (by first | rfl | (simp only [EN, topic_Shared_out]; done) | (simp only [EN, topic_Shared_out]; rfl))
  · skip
    refine le_call (good := good) (fun y => ⟨y, rfl⟩) strings_Cut_inj (strings_Cut_ok r0.1 ([47] : Str)) (fun r1 _ => ?_)
    refine le_cond rfl (fun _ => ?_) (fun _ => ?_)
    · skip
      exact le_ret (by first | rfl | (simp only [EN, topic_Shared_out]; done) | (simp only [EN, topic_Shared_out]; rfl))
    · skip
      refine le_call (good := good) (fun y => ⟨y, rfl⟩) topic_Name_inj (topic_Name_ok r1.1) (fun r2 _ => ?_)
      refine le_cond rfl (fun _ => ?_) (fun _ => ?_)
      · skip
        exact le_ret (by first | rfl | (simp only [EN, topic_Shared_out]; done) | (simp only [EN, topic_Shared_out]; rfl))
      · skip
        refine le_call (good := good) (fun y => ⟨y, rfl⟩) topic_Filter_inj (topic_Filter_ok r1.2.1) (fun r3 _ => ?_)
        refine le_cond rfl (fun _ => ?_) (fun _ => ?_)
        · skip
          exact le_ret (by first | rfl | (simp only [EN, topic_Shared_out]; done) | (simp only [EN, topic_Shared_out]; rfl))
        · skip
          refine le_call (good := good) (fun y => ⟨y, rfl⟩) strings_HasPrefix_inj (strings_HasPrefix_ok r1.2.1 ([36, 115, 104, 97, 114, 101, 47] : Str)) (fun r4 _ => ?_)
          refine le_cond rfl (fun _ => ?_) (fun _ => ?_)
          · skip
            exact le_ret (by first | rfl | (simp only [EN, topic_Shared_out]; done) | (simp only [EN, topic_Shared_out]; rfl))
          · skip
            exact le_ret (by first | rfl | (simp only [EN, topic_Shared_out]; done) | (simp only [EN, topic_Shared_out]; rfl))
def C66 (Γ : Fun) (γ76 : Gm (Str × Str × Bool)) (γ77 : Gm (Bool)) (γ78 : Gm (Bool)) : CFun := updC (updC (updC (bindC Γ) 76 topic_Shared_out γ76) 77 topic_Filter_out γ77) 78 strings_HasPrefix_out γ78
theorem T66 (Γ : Fun) (γ76 : Gm (Str × Str × Bool)) (γ77 : Gm (Bool)) (γ78 : Gm (Bool)) (Λ2 J : Lam) (p0 : Str) : bodyC SE (C66 Γ γ76 γ77 γ78) Λ2 J 66 [.d (.str p0)] [] [] =
  γ76 [.d (.str p0)] [] [] fun r0 =>
  cond r0.2.2 (
   (some (.ret [.d (.bool true), .d (.bool true)] [] []))) (
  γ77 [.d (.str p0)] [] [] fun r1 =>
  cond r1 (
   γ78 [.d (.str p0), .d (.str ([36, 115, 104, 97, 114, 101, 47] : Str))] [] [] fun r2 =>
   (some (.ret [.d (.bool (!r2)), .d (.bool false)] [] []))) (
  (some (.ret [.d (.bool false), .d (.bool false)] [] [])))) := by kernel_rfl
abbrev X66 : CFun := C66 (callG SE good) (callT SE good 76 topic_Shared_out) (callT SE good 77 topic_Filter_out) (callT SE good 78 strings_HasPrefix_out)
theorem Cr66 : C66 (callG SE good) (callT SE good 76 topic_Shared_out) (callT SE good 77 topic_Filter_out) (callT SE good 78 strings_HasPrefix_out) = bindC (callG SE good) := by unfold C66; rw [updC_real (fun _ h => h), updC_real (fun _ h => h), updC_real (fun _ h => h)]
theorem packet_wanted_ok (p0 : Str) : Le (Option.map packet_wanted_out (packet_wanted p0)) (callW SE 66 [.d (.str p0)] [] []) := by
  refine le_bodyC Cr66 ?_
  refine Le.trans ?_ (le_of_eq (T66 _ _ _ _ _ _  p0).symm)
  unfold packet_wanted
  refine le_call (good := good) (fun y => ⟨y, rfl⟩) topic_Shared_inj (topic_Shared_ok p0) (fun r0 _ => ?_)
  refine le_cond rfl (fun _ => ?_) (fun _ => ?_)
  · skip
    exact le_ret (by first | rfl | (simp only [EN, packet_wanted_out]; done) | (simp only [EN, packet_wanted_out]; rfl))
  · skip
    refine le_call (good := good) (fun y => ⟨y, rfl⟩) topic_Filter_inj (topic_Filter_ok p0) (fun r1 _ => ?_)
    refine le_cond rfl (fun _ => ?_) (fun _ => ?_)
    · skip
      refine le_call (good := good) (fun y => ⟨y, rfl⟩) strings_HasPrefix_inj (strings_HasPrefix_ok p0 ([36, 115, 104, 97, 114, 101, 47] : Str)) (fun r2 _ => ?_)
      exact le_ret (by first | rfl | (simp only [EN, packet_wanted_out]; done) | (simp only [EN, packet_wanted_out]; rfl))
    · skip
      exact le_ret (by first | rfl | (simp only [EN, packet_wanted_out]; done) | (simp only [EN, packet_wanted_out]; rfl))
def C46 (Γ : Fun) (γ65 : Gm (Int)) (γ66 : Gm (Bool × Bool)) (γ39 : Gm (Bool)) : CFun := updC (updC (updC (bindC Γ) 65 packet_counted_out γ65) 66 packet_wanted_out γ66) 39 packet_is_out γ39
def R46_5 (C : CFun) (Λ2 J : Lam) (a0 : (List (List D))) (a1 : Int) (a2 : Int) : Res := lab SE C Λ2 J 46 0 [1, 1, 0, 1, 0] (stoOf [(18, .d (.sl api_Sub.ks a0)), (19, .d (.int .i64 a1)), (20, .d (.int .i64 a2))] [] [] [] [])
theorem T46 (Γ : Fun) (γ65 : Gm (Int)) (γ66 : Gm (Bool × Bool)) (γ39 : Gm (Bool)) (Λ2 J : Lam) (p0 : api_Packet) : bodyC SE (C46 Γ γ65 γ66 γ39) Λ2 J 46 [api_Packet.av p0] [] [] =
  γ65 [.d (.int .i64 p0.ID), .d (.int .i64 (List.length (List.map api_Sub.enc p0.Subs) : Int))] [] [] fun r0 =>
  cond (r0 != 0) (
   (some (.ret [.d (.int .i64 r0)] [] []))) (
  R46_5 (C46 Γ γ65 γ66 γ39) Λ2 J (List.map api_Sub.enc p0.Subs) (List.length (List.map api_Sub.enc p0.Subs) : Int) 0) := by kernel_rfl
theorem T46_5 (Γ : Fun) (γ65 : Gm (Int)) (γ66 : Gm (Bool × Bool)) (γ39 : Gm (Bool)) (Λ2 J : Lam) (x18 : (List api_Sub)) (x19 : Int) (x20 : Int) : labU SE (C46 Γ γ65 γ66 γ39) Λ2 J 46 0 [1, 1, 0, 1, 0] (stoOf [(18, .d (.sl api_Sub.ks (List.map api_Sub.enc x18))), (19, .d (.int .i64 x19)), (20, .d (.int .i64 x20))] [] [] [] []) =
  cond (decide (x20 < x19)) (
   cond (decide (0 ≤ x20) && decide (x20 < (List.length (List.map api_Sub.enc x18) : Int))) (
    γ66 [.d (.str (dStr (cellAt (elemAt (List.map api_Sub.enc x18) (Int.toNat x20)) 0)))] [] [] fun r1 =>
    cond (!r1.1) (
     (some (.ret [.d (.int .i64 13)] [] []))) (
    γ39 [.d (.int .i64 (dInt (cellAt (elemAt (List.map api_Sub.enc x18) (Int.toNat x20)) 1))), .d (.int .i64 0), .d (.int .i64 2)] [] [] fun r2 =>
    cond (!r2) (
     (some (.ret [.d (.int .i64 14)] [] []))) (
    cond (dBool (cellAt (elemAt (List.map api_Sub.enc x18) (Int.toNat x20)) 2)) (
     cond r1.2 (
      (some (.ret [.d (.int .i64 28)] [] []))) (
     R46_5 (C46 Γ γ65 γ66 γ39) Λ2 J (List.map api_Sub.enc x18) x19 (IntKind.wrap .i64 (x20 + 1)))) (
    R46_5 (C46 Γ γ65 γ66 γ39) Λ2 J (List.map api_Sub.enc x18) x19 (IntKind.wrap .i64 (x20 + 1)))))) none) (
  (some (.ret [.d (.int .i64 0)] [] []))) := by kernel_rfl
abbrev X46 : CFun := C46 (callG SE good) (callT SE good 65 packet_counted_out) (callT SE good 66 packet_wanted_out) (callT SE good 39 packet_is_out)
theorem Cr46 : C46 (callG SE good) (callT SE good 65 packet_counted_out) (callT SE good 66 packet_wanted_out) (callT SE good 39 packet_is_out) = bindC (callG SE good) := by unfold C46; rw [updC_real (fun _ h => h), updC_real (fun _ h => h), updC_real (fun _ h => h)]
noncomputable abbrev Q46_5 (a0 : (List (List D))) (a1 : Int) (a2 : Int) : Res := R46_5 X46 (lam2 SE (callG SE good) (SE.hl 46) (SE.hr 46)) (J0 SE X46) a0 a1 a2
theorem packet_subscribe_l5_ok : ∀ (fu : Nat) (x18 : (List api_Sub)) (x19 : Int) (x20 : Int), Le (Option.map packet_subscribe_out (packet_subscribe_l5 fu x18 x19 x20)) (Q46_5 (List.map api_Sub.enc x18) x19 x20) := by
  intro fu
  induction fu with
  | zero => intros; exact le_none
  | succ fu ih =>
    intro x18 x19 x20
    refine Le.trans ?_ (le_of_eq ((lab_realC Cr46).trans (T46_5 _ _ _ _ _ _  x18 x19 x20)).symm)
    unfold packet_subscribe_l5
    refine le_cond rfl (fun _ => ?_) (fun _ => ?_)
    · skip
      refine le_cond (by simp only [EN]) (fun _ => ?_) (fun _ => le_none)
      refine le_call (good := good) (fun y => ⟨y, rfl⟩) packet_wanted_inj (by first | (simp only [EN]; exact packet_wanted_ok ((List.getD x18 (Int.toNat x20) default).Filter)) | exact packet_wanted_ok ((List.getD x18 (Int.toNat x20) default).Filter)) (fun r1 _ => ?_)
      refine le_cond rfl (fun _ => ?_) (fun _ => ?_)
      · skip
        exact le_ret (by first | rfl | (simp only [EN, packet_subscribe_out]; done) | (simp only [EN, packet_subscribe_out]; rfl))
      · skip
        refine le_call (good := good) (fun y => ⟨y, rfl⟩) packet_is_inj (by first | (simp only [EN]; exact packet_is_ok ((List.getD x18 (Int.toNat x20) default).Level) 0 2) | exact packet_is_ok ((List.getD x18 (Int.toNat x20) default).Level) 0 2) (fun r2 _ => ?_)
        refine le_cond rfl (fun _ => ?_) (fun _ => ?_)
        · skip
          exact le_ret (by first | rfl | (simp only [EN, packet_subscribe_out]; done) | (simp only [EN, packet_subscribe_out]; rfl))
        · skip
          refine le_cond (by simp only [EN]) (fun _ => ?_) (fun _ => ?_)
          · skip
            refine le_cond rfl (fun _ => ?_) (fun _ => ?_)
            · skip
              exact le_ret (by first | rfl | (simp only [EN, packet_subscribe_out]; done) | (simp only [EN, packet_subscribe_out]; rfl))
            · skip
              exact ih x18 x19 (IntKind.wrap .i64 (x20 + 1))
          · skip
            exact ih x18 x19 (IntKind.wrap .i64 (x20 + 1))
    · skip
      exact le_ret (by first | rfl | (simp only [EN, packet_subscribe_out]; done) | (simp only [EN, packet_subscribe_out]; rfl))
theorem packet_subscribe_ok (p0 : api_Packet) : Le (Option.map packet_subscribe_out (packet_subscribe p0)) (callW SE 46 [api_Packet.av p0] [] []) := by
  refine le_bodyC Cr46 ?_
  refine Le.trans ?_ (le_of_eq (T46 _ _ _ _ _ _  p0).symm)
  unfold packet_subscribe
  refine le_call (good := good) (fun y => ⟨y, rfl⟩) packet_counted_inj (by first | (simp only [EN]; exact packet_counted_ok p0.ID (List.length p0.Subs : Int)) | exact packet_counted_ok p0.ID (List.length p0.Subs : Int)) (fun r0 _ => ?_)
  refine le_cond rfl (fun _ => ?_) (fun _ => ?_)
  · skip
    exact le_ret (by first | rfl | (simp only [EN, packet_subscribe_out]; done) | (simp only [EN, packet_subscribe_out]; rfl))
  · skip
    first | (simp only [EN]; exact packet_subscribe_l5_ok fuel p0.Subs (List.length p0.Subs : Int) 0) | exact packet_subscribe_l5_ok fuel p0.Subs (List.length p0.Subs : Int) 0
def C47 (Γ : Fun) (γ65 : Gm (Int)) (γ43 : Gm (Bool)) : CFun := updC (updC (bindC Γ) 65 packet_counted_out γ65) 43 packet_code_out γ43
def R47_5 (C : CFun) (Λ2 J : Lam) (a0 : (List (List D))) (a1 : Int) (a2 : Int) : Res := lab SE C Λ2 J 47 0 [1, 1, 0, 1, 0] (stoOf [(16, .d (.sl [.int .i64] a0)), (17, .d (.int .i64 a1)), (18, .d (.int .i64 a2))] [] [] [] [])
theorem T47 (Γ : Fun) (γ65 : Gm (Int)) (γ43 : Gm (Bool)) (Λ2 J : Lam) (p0 : api_Packet) : bodyC SE (C47 Γ γ65 γ43) Λ2 J 47 [api_Packet.av p0] [] [] =
  γ65 [.d (.int .i64 p0.ID), .d (.int .i64 (List.length (List.map (encI .i64) p0.Codes) : Int))] [] [] fun r0 =>
  cond (r0 != 0) (
   (some (.ret [.d (.int .i64 r0)] [] []))) (
  R47_5 (C47 Γ γ65 γ43) Λ2 J (List.map (encI .i64) p0.Codes) (List.length (List.map (encI .i64) p0.Codes) : Int) 0) := by kernel_rfl
theorem T47_5 (Γ : Fun) (γ65 : Gm (Int)) (γ43 : Gm (Bool)) (Λ2 J : Lam) (x16 : (List Int)) (x17 : Int) (x18 : Int) : labU SE (C47 Γ γ65 γ43) Λ2 J 47 0 [1, 1, 0, 1, 0] (stoOf [(16, .d (.sl [.int .i64] (List.map (encI .i64) x16))), (17, .d (.int .i64 x17)), (18, .d (.int .i64 x18))] [] [] [] []) =
  cond (decide (x18 < x17)) (
   cond (decide (0 ≤ x18) && decide (x18 < (List.length (List.map (encI .i64) x16) : Int))) (
    γ43 [.d (.int .i64 (dInt (cellAt (elemAt (List.map (encI .i64) x16) (Int.toNat x18)) 0)))] [] [] fun r1 =>
    cond (!r1) (
     (some (.ret [.d (.int .i64 1)] [] []))) (
    R47_5 (C47 Γ γ65 γ43) Λ2 J (List.map (encI .i64) x16) x17 (IntKind.wrap .i64 (x18 + 1)))) none) (
  (some (.ret [.d (.int .i64 0)] [] []))) := by kernel_rfl
abbrev X47 : CFun := C47 (callG SE good) (callT SE good 65 packet_counted_out) (callT SE good 43 packet_code_out)
theorem Cr47 : C47 (callG SE good) (callT SE good 65 packet_counted_out) (callT SE good 43 packet_code_out) = bindC (callG SE good) := by unfold C47; rw [updC_real (fun _ h => h), updC_real (fun _ h => h)]
noncomputable abbrev Q47_5 (a0 : (List (List D))) (a1 : Int) (a2 : Int) : Res := R47_5 X47 (lam2 SE (callG SE good) (SE.hl 47) (SE.hr 47)) (J0 SE X47) a0 a1 a2
theorem packet_codes_l5_ok : ∀ (fu : Nat) (x16 : (List Int)) (x17 : Int) (x18 : Int), Le (Option.map packet_codes_out (packet_codes_l5 fu x16 x17 x18)) (Q47_5 (List.map (encI .i64) x16) x17 x18) := by
  intro fu
  induction fu with
  | zero => intros; exact le_none
  | succ fu ih =>
    intro x16 x17 x18
    refine Le.trans ?_ (le_of_eq ((lab_realC Cr47).trans (T47_5 _ _ _ _ _  x16 x17 x18)).symm)
    unfold packet_codes_l5
    refine le_cond rfl (fun _ => ?_) (fun _ => ?_)
    · skip
      refine le_cond (by simp only [EN]) (fun _ => ?_) (fun _ => le_none)
      refine le_call (good := good) (fun y => ⟨y, rfl⟩) packet_code_inj (by first | (simp only [EN]; exact packet_code_ok (List.getD x16 (Int.toNat x18) default)) | exact packet_code_ok (List.getD x16 (Int.toNat x18) default)) (fun r1 _ => ?_)
      refine le_cond rfl (fun _ => ?_) (fun _ => ?_)
      · skip
        exact le_ret (by first | rfl | (simp only [EN, packet_codes_out]; done) | (simp only [EN, packet_codes_out]; rfl))
      · skip
        exact ih x16 x17 (IntKind.wrap .i64 (x18 + 1))
    · skip
      exact le_ret (by first | rfl | (simp only [EN, packet_codes_out]; done) | (simp only [EN, packet_codes_out]; rfl))
theorem packet_codes_ok (p0 : api_Packet) : Le (Option.map packet_codes_out (packet_codes p0)) (callW SE 47 [api_Packet.av p0] [] []) := by
  refine le_bodyC Cr47 ?_
  refine Le.trans ?_ (le_of_eq (T47 _ _ _ _ _  p0).symm)
  unfold packet_codes
  refine le_call (good := good) (fun y => ⟨y, rfl⟩) packet_counted_inj (by first | (simp only [EN]; exact packet_counted_ok p0.ID (List.length p0.Codes : Int)) | exact packet_counted_ok p0.ID (List.length p0.Codes : Int)) (fun r0 _ => ?_)
  refine le_cond rfl (fun _ => ?_) (fun _ => ?_)
  · skip
    exact le_ret (by first | rfl | (simp only [EN, packet_codes_out]; done) | (simp only [EN, packet_codes_out]; rfl))
  · skip
    first | (simp only [EN]; exact packet_codes_l5_ok fuel p0.Codes (List.length p0.Codes : Int) 0) | exact packet_codes_l5_ok fuel p0.Codes (List.length p0.Codes : Int) 0
end Te
end PX
