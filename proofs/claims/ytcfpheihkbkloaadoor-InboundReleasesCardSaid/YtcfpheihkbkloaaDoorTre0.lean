import Derived.Test.YtcfpheihkbkloaaDoorTab
set_option linter.unusedVariables false
set_option linter.unusedSimpArgs false
set_option linter.unusedVariables false
set_option linter.unusedSimpArgs false
set_option maxRecDepth 100000
noncomputable section
namespace PX
open Go
open Md
namespace Te
def C5 (Γ : Fun)  : CFun := bindC Γ
def R5_5 (C : CFun) (Λ2 J : Lam) (a0 : Int) (a1 : (List (List D))) (a2 : Int) (a3 : Int) : Res := lab SE C Λ2 J 5 0 [1, 1, 1, 0, 1, 0] (stoOf [(3, .d (.int .i64 a0)), (11, .d (.sl [.int .i64] a1)), (12, .d (.int .i64 a2)), (13, .d (.int .i64 a3))] [] [] [] [])
theorem T5 (Γ : Fun)  (Λ2 J : Lam) (p0 : api_Inbox) : bodyC SE (C5 Γ) Λ2 J 5 [api_Inbox.av p0] [] [] =
  cond (decide ((List.length (List.map (encI .i64) p0.IDs) : Int) > 32)) (
   (some (.ret [.d (.int .i64 5)] [] []))) (
  R5_5 (C5 Γ) Λ2 J 0 (List.map (encI .i64) p0.IDs) (List.length (List.map (encI .i64) p0.IDs) : Int) 0) := by kernel_rfl
theorem T5_5 (Γ : Fun)  (Λ2 J : Lam) (x3 : Int) (x11 : (List Int)) (x12 : Int) (x13 : Int) : labU SE (C5 Γ) Λ2 J 5 0 [1, 1, 1, 0, 1, 0] (stoOf [(3, .d (.int .i64 x3)), (11, .d (.sl [.int .i64] (List.map (encI .i64) x11))), (12, .d (.int .i64 x12)), (13, .d (.int .i64 x13))] [] [] [] []) =
  cond (decide (x13 < x12)) (
   cond (decide (0 ≤ x13) && decide (x13 < (List.length (List.map (encI .i64) x11) : Int))) (
    cond (decide ((dInt (cellAt (elemAt (List.map (encI .i64) x11) (Int.toNat x13)) 0)) ≤ x3)) (
     (some (.ret [.d (.int .i64 15)] [] []))) (
    cond (decide ((dInt (cellAt (elemAt (List.map (encI .i64) x11) (Int.toNat x13)) 0)) > 65535)) (
     (some (.ret [.d (.int .i64 15)] [] []))) (
    R5_5 (C5 Γ) Λ2 J ((dInt (cellAt (elemAt (List.map (encI .i64) x11) (Int.toNat x13)) 0))) (List.map (encI .i64) x11) x12 (IntKind.wrap .i64 (x13 + 1))))) none) (
  (some (.ret [.d (.int .i64 0)] [] []))) := by kernel_rfl
abbrev X5 : CFun := C5 (callG SE good)
theorem Cr5 : C5 (callG SE good) = bindC (callG SE good) := by unfold C5; rfl
noncomputable abbrev Q5_5 (a0 : Int) (a1 : (List (List D))) (a2 : Int) (a3 : Int) : Res := R5_5 X5 (lam2 SE (callG SE good) (SE.hl 5) (SE.hr 5)) (J0 SE X5) a0 a1 a2 a3
theorem inbound_Check_l5_ok : ∀ (fu : Nat) (x3 : Int) (x11 : (List Int)) (x12 : Int) (x13 : Int), Le (Option.map inbound_Check_out (inbound_Check_l5 fu x3 x11 x12 x13)) (Q5_5 x3 (List.map (encI .i64) x11) x12 x13) := by
  intro fu
  induction fu with
  | zero => intros; exact le_none
  | succ fu ih =>
    intro x3 x11 x12 x13
    refine Le.trans ?_ (le_of_eq ((lab_realC Cr5).trans (T5_5 _ _ _  x3 x11 x12 x13)).symm)
    unfold inbound_Check_l5
    refine le_cond rfl (fun _ => ?_) (fun _ => ?_)
    · skip
      refine le_cond (by simp only [EN]) (fun _ => ?_) (fun _ => le_none)
      refine le_cond (by simp only [EN]) (fun _ => ?_) (fun _ => ?_)
      · skip
        exact le_ret (by first | rfl | (simp only [EN, inbound_Check_out]; done) | (simp only [EN, inbound_Check_out]; rfl))
      · skip
        refine le_cond (by simp only [EN]) (fun _ => ?_) (fun _ => ?_)
        · skip
          exact le_ret (by first | rfl | (simp only [EN, inbound_Check_out]; done) | (simp only [EN, inbound_Check_out]; rfl))
        · skip
          first | (simp only [EN]; exact ih (List.getD x11 (Int.toNat x13) default) x11 x12 (IntKind.wrap .i64 (x13 + 1))) | exact ih (List.getD x11 (Int.toNat x13) default) x11 x12 (IntKind.wrap .i64 (x13 + 1))
    · skip
      exact le_ret (by first | rfl | (simp only [EN, inbound_Check_out]; done) | (simp only [EN, inbound_Check_out]; rfl))
theorem inbound_Check_ok (p0 : api_Inbox) : Le (Option.map inbound_Check_out (inbound_Check p0)) (callW SE 5 [api_Inbox.av p0] [] []) := by
  refine le_bodyC Cr5 rfl ?_
  refine Le.trans ?_ (le_of_eq (T5 _ _ _  p0).symm)
  unfold inbound_Check
  refine le_cond (by simp only [EN]) (fun _ => ?_) (fun _ => ?_)
  · skip
    exact le_ret (by first | rfl | (simp only [EN, inbound_Check_out]; done) | (simp only [EN, inbound_Check_out]; rfl))
  · skip
    first | (simp only [EN]; exact inbound_Check_l5_ok fuel 0 p0.IDs (List.length p0.IDs : Int) 0) | exact inbound_Check_l5_ok fuel 0 p0.IDs (List.length p0.IDs : Int) 0
def C34 (Γ : Fun)  : CFun := bindC Γ
theorem T34 (Γ : Fun)  (Λ2 J : Lam) (p0 : Int) (p1 : Int) (p2 : Int) : bodyC SE (C34 Γ) Λ2 J 34 [.d (.int .i64 p0), .d (.int .i64 p1), .d (.int .i64 p2)] [] [] =
  cond (decide (p0 ≥ p1)) (
   (some (.ret [.d (.bool (decide (p0 ≤ p2)))] [] []))) (
  (some (.ret [.d (.bool false)] [] []))) := by kernel_rfl
abbrev X34 : CFun := C34 (callG SE good)
theorem Cr34 : C34 (callG SE good) = bindC (callG SE good) := by unfold C34; rfl
theorem packet_is_ok (p0 : Int) (p1 : Int) (p2 : Int) : Le (Option.map packet_is_out (packet_is p0 p1 p2)) (callW SE 34 [.d (.int .i64 p0), .d (.int .i64 p1), .d (.int .i64 p2)] [] []) := by
  refine le_bodyC Cr34 rfl ?_
  refine Le.trans ?_ (le_of_eq (T34 _ _ _  p0 p1 p2).symm)
  unfold packet_is
  refine le_cond rfl (fun _ => ?_) (fun _ => ?_)
  · skip
    exact le_ret (by first | rfl | (simp only [EN, packet_is_out]; done) | (simp only [EN, packet_is_out]; rfl))
  · skip
    exact le_ret (by first | rfl | (simp only [EN, packet_is_out]; done) | (simp only [EN, packet_is_out]; rfl))
def C36 (Γ : Fun)  : CFun := bindC Γ
theorem T36 (Γ : Fun)  (Λ2 J : Lam) (p0 : api_Packet) : bodyC SE (C36 Γ) Λ2 J 36 [api_Packet.av p0] [] [] =
  cond (p0.Kind == 1) (
   (some (.ret [.agg [.d (.int .i64 p0.Kind), .d (.int .i64 0), .d (.bool false), .d (.str ([] : Str)), .d (.str ([] : Str)), .d (.int .i64 0), .d (.bool false), .d (.int .i64 0), .d (.int .i64 0), .d (.str ([] : Str)), .d (.int .i64 0), .d (.sl api_Prop.ks (List.map api_Prop.enc [])), .d (.str p0.Client), .d (.str p0.User), .d (.bool p0.Clean), .d (.int .i64 p0.Keep), .d (.int .i64 p0.Expiry), .d (.int .i64 p0.Window), .d (.bool p0.Will.Set), .d (.int .i64 p0.Will.Delay), .d (.str p0.Will.Message.Topic), .d (.str p0.Will.Message.Payload), .d (.int .i64 p0.Will.Message.Level), .d (.bool p0.Will.Message.Retain), .d (.int .i64 p0.Will.Message.Priority), .d (.int .i64 p0.Will.Message.Expires), .d (.str p0.Will.Message.From), .d (.int .i64 p0.Will.Message.Seq), .d (.sl api_Prop.ks (List.map api_Prop.enc p0.Will.Message.Props)), .d (.bool false), .d (.int .i64 0), .d (.sl api_Sub.ks (List.map api_Sub.enc [])), .d (.sl [.str] (List.map encS [])), .d (.sl [.int .i64] (List.map (encI .i64) []))]] [] []))) (
  cond (p0.Kind == 2) (
   (some (.ret [.agg [.d (.int .i64 p0.Kind), .d (.int .i64 0), .d (.bool false), .d (.str ([] : Str)), .d (.str ([] : Str)), .d (.int .i64 0), .d (.bool false), .d (.int .i64 0), .d (.int .i64 0), .d (.str ([] : Str)), .d (.int .i64 0), .d (.sl api_Prop.ks (List.map api_Prop.enc [])), .d (.str ([] : Str)), .d (.str ([] : Str)), .d (.bool false), .d (.int .i64 0), .d (.int .i64 0), .d (.int .i64 0), .d (.bool false), .d (.int .i64 0), .d (.str ([] : Str)), .d (.str ([] : Str)), .d (.int .i64 0), .d (.bool false), .d (.int .i64 0), .d (.int .i64 0), .d (.str ([] : Str)), .d (.int .i64 0), .d (.sl api_Prop.ks (List.map api_Prop.enc [])), .d (.bool p0.Present), .d (.int .i64 p0.Code), .d (.sl api_Sub.ks (List.map api_Sub.enc [])), .d (.sl [.str] (List.map encS [])), .d (.sl [.int .i64] (List.map (encI .i64) []))]] [] []))) (
  cond (p0.Kind == 3) (
   (some (.ret [.agg [.d (.int .i64 p0.Kind), .d (.int .i64 p0.ID), .d (.bool p0.Dup), .d (.str p0.Message.Topic), .d (.str p0.Message.Payload), .d (.int .i64 p0.Message.Level), .d (.bool p0.Message.Retain), .d (.int .i64 p0.Message.Priority), .d (.int .i64 p0.Message.Expires), .d (.str p0.Message.From), .d (.int .i64 p0.Message.Seq), .d (.sl api_Prop.ks (List.map api_Prop.enc p0.Message.Props)), .d (.str ([] : Str)), .d (.str ([] : Str)), .d (.bool false), .d (.int .i64 0), .d (.int .i64 0), .d (.int .i64 0), .d (.bool false), .d (.int .i64 0), .d (.str ([] : Str)), .d (.str ([] : Str)), .d (.int .i64 0), .d (.bool false), .d (.int .i64 0), .d (.int .i64 0), .d (.str ([] : Str)), .d (.int .i64 0), .d (.sl api_Prop.ks (List.map api_Prop.enc [])), .d (.bool false), .d (.int .i64 0), .d (.sl api_Sub.ks (List.map api_Sub.enc [])), .d (.sl [.str] (List.map encS [])), .d (.sl [.int .i64] (List.map (encI .i64) []))]] [] []))) (
  cond (p0.Kind == 4) (
   (some (.ret [.agg [.d (.int .i64 p0.Kind), .d (.int .i64 p0.ID), .d (.bool false), .d (.str ([] : Str)), .d (.str ([] : Str)), .d (.int .i64 0), .d (.bool false), .d (.int .i64 0), .d (.int .i64 0), .d (.str ([] : Str)), .d (.int .i64 0), .d (.sl api_Prop.ks (List.map api_Prop.enc [])), .d (.str ([] : Str)), .d (.str ([] : Str)), .d (.bool false), .d (.int .i64 0), .d (.int .i64 0), .d (.int .i64 0), .d (.bool false), .d (.int .i64 0), .d (.str ([] : Str)), .d (.str ([] : Str)), .d (.int .i64 0), .d (.bool false), .d (.int .i64 0), .d (.int .i64 0), .d (.str ([] : Str)), .d (.int .i64 0), .d (.sl api_Prop.ks (List.map api_Prop.enc [])), .d (.bool false), .d (.int .i64 0), .d (.sl api_Sub.ks (List.map api_Sub.enc [])), .d (.sl [.str] (List.map encS [])), .d (.sl [.int .i64] (List.map (encI .i64) []))]] [] []))) (
  cond (p0.Kind == 5) (
   (some (.ret [.agg [.d (.int .i64 p0.Kind), .d (.int .i64 p0.ID), .d (.bool false), .d (.str ([] : Str)), .d (.str ([] : Str)), .d (.int .i64 0), .d (.bool false), .d (.int .i64 0), .d (.int .i64 0), .d (.str ([] : Str)), .d (.int .i64 0), .d (.sl api_Prop.ks (List.map api_Prop.enc [])), .d (.str ([] : Str)), .d (.str ([] : Str)), .d (.bool false), .d (.int .i64 0), .d (.int .i64 0), .d (.int .i64 0), .d (.bool false), .d (.int .i64 0), .d (.str ([] : Str)), .d (.str ([] : Str)), .d (.int .i64 0), .d (.bool false), .d (.int .i64 0), .d (.int .i64 0), .d (.str ([] : Str)), .d (.int .i64 0), .d (.sl api_Prop.ks (List.map api_Prop.enc [])), .d (.bool false), .d (.int .i64 0), .d (.sl api_Sub.ks (List.map api_Sub.enc [])), .d (.sl [.str] (List.map encS [])), .d (.sl [.int .i64] (List.map (encI .i64) []))]] [] []))) (
  cond (p0.Kind == 6) (
   (some (.ret [.agg [.d (.int .i64 p0.Kind), .d (.int .i64 p0.ID), .d (.bool false), .d (.str ([] : Str)), .d (.str ([] : Str)), .d (.int .i64 0), .d (.bool false), .d (.int .i64 0), .d (.int .i64 0), .d (.str ([] : Str)), .d (.int .i64 0), .d (.sl api_Prop.ks (List.map api_Prop.enc [])), .d (.str ([] : Str)), .d (.str ([] : Str)), .d (.bool false), .d (.int .i64 0), .d (.int .i64 0), .d (.int .i64 0), .d (.bool false), .d (.int .i64 0), .d (.str ([] : Str)), .d (.str ([] : Str)), .d (.int .i64 0), .d (.bool false), .d (.int .i64 0), .d (.int .i64 0), .d (.str ([] : Str)), .d (.int .i64 0), .d (.sl api_Prop.ks (List.map api_Prop.enc [])), .d (.bool false), .d (.int .i64 0), .d (.sl api_Sub.ks (List.map api_Sub.enc [])), .d (.sl [.str] (List.map encS [])), .d (.sl [.int .i64] (List.map (encI .i64) []))]] [] []))) (
  cond (p0.Kind == 7) (
   (some (.ret [.agg [.d (.int .i64 p0.Kind), .d (.int .i64 p0.ID), .d (.bool false), .d (.str ([] : Str)), .d (.str ([] : Str)), .d (.int .i64 0), .d (.bool false), .d (.int .i64 0), .d (.int .i64 0), .d (.str ([] : Str)), .d (.int .i64 0), .d (.sl api_Prop.ks (List.map api_Prop.enc [])), .d (.str ([] : Str)), .d (.str ([] : Str)), .d (.bool false), .d (.int .i64 0), .d (.int .i64 0), .d (.int .i64 0), .d (.bool false), .d (.int .i64 0), .d (.str ([] : Str)), .d (.str ([] : Str)), .d (.int .i64 0), .d (.bool false), .d (.int .i64 0), .d (.int .i64 0), .d (.str ([] : Str)), .d (.int .i64 0), .d (.sl api_Prop.ks (List.map api_Prop.enc [])), .d (.bool false), .d (.int .i64 0), .d (.sl api_Sub.ks (List.map api_Sub.enc [])), .d (.sl [.str] (List.map encS [])), .d (.sl [.int .i64] (List.map (encI .i64) []))]] [] []))) (
  cond (p0.Kind == 8) (
   (some (.ret [.agg [.d (.int .i64 p0.Kind), .d (.int .i64 p0.ID), .d (.bool false), .d (.str ([] : Str)), .d (.str ([] : Str)), .d (.int .i64 0), .d (.bool false), .d (.int .i64 0), .d (.int .i64 0), .d (.str ([] : Str)), .d (.int .i64 0), .d (.sl api_Prop.ks (List.map api_Prop.enc [])), .d (.str ([] : Str)), .d (.str ([] : Str)), .d (.bool false), .d (.int .i64 0), .d (.int .i64 0), .d (.int .i64 0), .d (.bool false), .d (.int .i64 0), .d (.str ([] : Str)), .d (.str ([] : Str)), .d (.int .i64 0), .d (.bool false), .d (.int .i64 0), .d (.int .i64 0), .d (.str ([] : Str)), .d (.int .i64 0), .d (.sl api_Prop.ks (List.map api_Prop.enc [])), .d (.bool false), .d (.int .i64 0), .d (.sl api_Sub.ks (List.map api_Sub.enc p0.Subs)), .d (.sl [.str] (List.map encS [])), .d (.sl [.int .i64] (List.map (encI .i64) []))]] [] []))) (
  cond (p0.Kind == 9) (
   (some (.ret [.agg [.d (.int .i64 p0.Kind), .d (.int .i64 p0.ID), .d (.bool false), .d (.str ([] : Str)), .d (.str ([] : Str)), .d (.int .i64 0), .d (.bool false), .d (.int .i64 0), .d (.int .i64 0), .d (.str ([] : Str)), .d (.int .i64 0), .d (.sl api_Prop.ks (List.map api_Prop.enc [])), .d (.str ([] : Str)), .d (.str ([] : Str)), .d (.bool false), .d (.int .i64 0), .d (.int .i64 0), .d (.int .i64 0), .d (.bool false), .d (.int .i64 0), .d (.str ([] : Str)), .d (.str ([] : Str)), .d (.int .i64 0), .d (.bool false), .d (.int .i64 0), .d (.int .i64 0), .d (.str ([] : Str)), .d (.int .i64 0), .d (.sl api_Prop.ks (List.map api_Prop.enc [])), .d (.bool false), .d (.int .i64 0), .d (.sl api_Sub.ks (List.map api_Sub.enc [])), .d (.sl [.str] (List.map encS [])), .d (.sl [.int .i64] (List.map (encI .i64) p0.Codes))]] [] []))) (
  cond (p0.Kind == 11) (
   (some (.ret [.agg [.d (.int .i64 p0.Kind), .d (.int .i64 p0.ID), .d (.bool false), .d (.str ([] : Str)), .d (.str ([] : Str)), .d (.int .i64 0), .d (.bool false), .d (.int .i64 0), .d (.int .i64 0), .d (.str ([] : Str)), .d (.int .i64 0), .d (.sl api_Prop.ks (List.map api_Prop.enc [])), .d (.str ([] : Str)), .d (.str ([] : Str)), .d (.bool false), .d (.int .i64 0), .d (.int .i64 0), .d (.int .i64 0), .d (.bool false), .d (.int .i64 0), .d (.str ([] : Str)), .d (.str ([] : Str)), .d (.int .i64 0), .d (.bool false), .d (.int .i64 0), .d (.int .i64 0), .d (.str ([] : Str)), .d (.int .i64 0), .d (.sl api_Prop.ks (List.map api_Prop.enc [])), .d (.bool false), .d (.int .i64 0), .d (.sl api_Sub.ks (List.map api_Sub.enc [])), .d (.sl [.str] (List.map encS [])), .d (.sl [.int .i64] (List.map (encI .i64) p0.Codes))]] [] []))) (
  cond (p0.Kind == 10) (
   (some (.ret [.agg [.d (.int .i64 p0.Kind), .d (.int .i64 p0.ID), .d (.bool false), .d (.str ([] : Str)), .d (.str ([] : Str)), .d (.int .i64 0), .d (.bool false), .d (.int .i64 0), .d (.int .i64 0), .d (.str ([] : Str)), .d (.int .i64 0), .d (.sl api_Prop.ks (List.map api_Prop.enc [])), .d (.str ([] : Str)), .d (.str ([] : Str)), .d (.bool false), .d (.int .i64 0), .d (.int .i64 0), .d (.int .i64 0), .d (.bool false), .d (.int .i64 0), .d (.str ([] : Str)), .d (.str ([] : Str)), .d (.int .i64 0), .d (.bool false), .d (.int .i64 0), .d (.int .i64 0), .d (.str ([] : Str)), .d (.int .i64 0), .d (.sl api_Prop.ks (List.map api_Prop.enc [])), .d (.bool false), .d (.int .i64 0), .d (.sl api_Sub.ks (List.map api_Sub.enc [])), .d (.sl [.str] (List.map encS p0.Filters)), .d (.sl [.int .i64] (List.map (encI .i64) []))]] [] []))) (
  cond (p0.Kind == 14) (
   (some (.ret [.agg [.d (.int .i64 p0.Kind), .d (.int .i64 0), .d (.bool false), .d (.str ([] : Str)), .d (.str ([] : Str)), .d (.int .i64 0), .d (.bool false), .d (.int .i64 0), .d (.int .i64 0), .d (.str ([] : Str)), .d (.int .i64 0), .d (.sl api_Prop.ks (List.map api_Prop.enc [])), .d (.str ([] : Str)), .d (.str ([] : Str)), .d (.bool false), .d (.int .i64 0), .d (.int .i64 0), .d (.int .i64 0), .d (.bool false), .d (.int .i64 0), .d (.str ([] : Str)), .d (.str ([] : Str)), .d (.int .i64 0), .d (.bool false), .d (.int .i64 0), .d (.int .i64 0), .d (.str ([] : Str)), .d (.int .i64 0), .d (.sl api_Prop.ks (List.map api_Prop.enc [])), .d (.bool false), .d (.int .i64 p0.Code), .d (.sl api_Sub.ks (List.map api_Sub.enc [])), .d (.sl [.str] (List.map encS [])), .d (.sl [.int .i64] (List.map (encI .i64) []))]] [] []))) (
  (some (.ret [.agg [.d (.int .i64 p0.Kind), .d (.int .i64 0), .d (.bool false), .d (.str ([] : Str)), .d (.str ([] : Str)), .d (.int .i64 0), .d (.bool false), .d (.int .i64 0), .d (.int .i64 0), .d (.str ([] : Str)), .d (.int .i64 0), .d (.sl api_Prop.ks (List.map api_Prop.enc [])), .d (.str ([] : Str)), .d (.str ([] : Str)), .d (.bool false), .d (.int .i64 0), .d (.int .i64 0), .d (.int .i64 0), .d (.bool false), .d (.int .i64 0), .d (.str ([] : Str)), .d (.str ([] : Str)), .d (.int .i64 0), .d (.bool false), .d (.int .i64 0), .d (.int .i64 0), .d (.str ([] : Str)), .d (.int .i64 0), .d (.sl api_Prop.ks (List.map api_Prop.enc [])), .d (.bool false), .d (.int .i64 0), .d (.sl api_Sub.ks (List.map api_Sub.enc [])), .d (.sl [.str] (List.map encS [])), .d (.sl [.int .i64] (List.map (encI .i64) []))]] [] [])))))))))))))) := by kernel_rfl
abbrev X36 : CFun := C36 (callG SE good)
theorem Cr36 : C36 (callG SE good) = bindC (callG SE good) := by unfold C36; rfl
theorem packet_used_ok (p0 : api_Packet) : Le (Option.map packet_used_out (packet_used p0)) (callW SE 36 [api_Packet.av p0] [] []) := by
  refine le_bodyC Cr36 rfl ?_
  refine Le.trans ?_ (le_of_eq (T36 _ _ _  p0).symm)
  unfold packet_used
  refine le_cond rfl (fun _ => ?_) (fun _ => ?_)
  · skip
    exact le_ret (by first | rfl | (simp only [EN, packet_used_out]; done) | (simp only [EN, packet_used_out]; rfl))
  · skip
    refine le_cond rfl (fun _ => ?_) (fun _ => ?_)
    · skip
      exact le_ret (by first | rfl | (simp only [EN, packet_used_out]; done) | (simp only [EN, packet_used_out]; rfl))
    · skip
      refine le_cond rfl (fun _ => ?_) (fun _ => ?_)
      · skip
        exact le_ret (by first | rfl | (simp only [EN, packet_used_out]; done) | (simp only [EN, packet_used_out]; rfl))
      · skip
        refine le_cond rfl (fun _ => ?_) (fun _ => ?_)
        · skip
          exact le_ret (by first | rfl | (simp only [EN, packet_used_out]; done) | (simp only [EN, packet_used_out]; rfl))
        · skip
          refine le_cond rfl (fun _ => ?_) (fun _ => ?_)
          · skip
            exact le_ret (by first | rfl | (simp only [EN, packet_used_out]; done) | (simp only [EN, packet_used_out]; rfl))
          · skip
            refine le_cond rfl (fun _ => ?_) (fun _ => ?_)
            · skip
              exact le_ret (by first | rfl | (simp only [EN, packet_used_out]; done) | (simp only [EN, packet_used_out]; rfl))
            · skip
              refine le_cond rfl (fun _ => ?_) (fun _ => ?_)
              · skip
                exact le_ret (by first | rfl | (simp only [EN, packet_used_out]; done) | (simp only [EN, packet_used_out]; rfl))
              · skip
                refine le_cond rfl (fun _ => ?_) (fun _ => ?_)
                · skip
                  exact le_ret (by first | rfl | (simp only [EN, packet_used_out]; done) | (simp only [EN, packet_used_out]; rfl))
                · skip
                  refine le_cond rfl (fun _ => ?_) (fun _ => ?_)
                  · skip
                    exact le_ret (by first | rfl | (simp only [EN, packet_used_out]; done) | (simp only [EN, packet_used_out]; rfl))
                  · skip
                    refine le_cond rfl (fun _ => ?_) (fun _ => ?_)
                    · skip
                      exact le_ret (by first | rfl | (simp only [EN, packet_used_out]; done) | (simp only [EN, packet_used_out]; rfl))
                    · skip
                      refine le_cond rfl (fun _ => ?_) (fun _ => ?_)
                      · skip
                        exact le_ret (by first | rfl | (simp only [EN, packet_used_out]; done) | (simp only [EN, packet_used_out]; rfl))
                      · skip
                        refine le_cond rfl (fun _ => ?_) (fun _ => ?_)
                        · skip
                          exact le_ret (by first | rfl | (simp only [EN, packet_used_out]; done) | (simp only [EN, packet_used_out]; rfl))
                        · skip
                          exact le_ret (by first | rfl | (simp only [EN, packet_used_out]; done) | (simp only [EN, packet_used_out]; rfl))
def C46 (Γ : Fun)  : CFun := bindC Γ
theorem T46 (Γ : Fun)  (Λ2 J : Lam) (p0 : api_Packet) : bodyC SE (C46 Γ) Λ2 J 46 [api_Packet.av p0] [] [] =
  (some (.ret [packet_plain.av (packet_plain.mk p0.Kind p0.ID p0.Keep p0.Expiry p0.Window p0.Code p0.Will.Delay p0.Dup p0.Clean p0.Present p0.Will.Set p0.Client p0.User)] [] [])) := by kernel_rfl
abbrev X46 : CFun := C46 (callG SE good)
theorem Cr46 : C46 (callG SE good) = bindC (callG SE good) := by unfold C46; rfl
theorem packet_plainOf_ok (p0 : api_Packet) : Le (Option.map packet_plainOf_out (packet_plainOf p0)) (callW SE 46 [api_Packet.av p0] [] []) := by
  refine le_bodyC Cr46 rfl ?_
  refine Le.trans ?_ (le_of_eq (T46 _ _ _  p0).symm)
  unfold packet_plainOf
  exact le_ret (by first | rfl | (simp only [EN, packet_plainOf_out]; done) | (simp only [EN, packet_plainOf_out]; rfl))
def C47 (Γ : Fun)  : CFun := bindC Γ
def R47_4 (C : CFun) (Λ2 J : Lam) (a0 : (List (List D))) (a1 : Int) (a2 : Int) (a3 : (List D)) : Res := lab SE C Λ2 J 47 0 [1, 1, 0, 1, 0] (stoOf [(3, .ptr 1000000000 0), (71, .d (.sl api_Prop.ks a0)), (72, .d (.int .i64 a1)), (73, .d (.int .i64 a2))] [⟨31, (List.map AV.d a3)⟩] [] [] [])
def R47_3 (C : CFun) (Λ2 J : Lam) (a0 : (List D)) (a1 : (List D)) : Res := lab SE C Λ2 J 47 0 [1, 1, 0, 0] (stoOf [(2, .ptr 1000000000 0), (3, .ptr 1000000001 0)] [⟨31, (List.map AV.d a0)⟩, ⟨31, (List.map AV.d a1)⟩] [] [] [])
theorem T47 (Γ : Fun)  (Λ2 J : Lam) (p0 : api_Message) (p1 : api_Message) : bodyC SE (C47 Γ) Λ2 J 47 [api_Message.av p0, api_Message.av p1] [] [] =
  cond (!(p0.Topic == p1.Topic)) (
   (some (.ret [.d (.bool false)] [] []))) (
  cond (!(p0.Payload == p1.Payload)) (
   (some (.ret [.d (.bool false)] [] []))) (
  cond (p0.Level != p1.Level) (
   (some (.ret [.d (.bool false)] [] []))) (
  cond (p0.Retain != p1.Retain) (
   (some (.ret [.d (.bool false)] [] []))) (
  cond (p0.Priority != p1.Priority) (
   (some (.ret [.d (.bool false)] [] []))) (
  cond (p0.Expires != p1.Expires) (
   (some (.ret [.d (.bool false)] [] []))) (
  cond (!(p0.From == p1.From)) (
   (some (.ret [.d (.bool false)] [] []))) (
  cond (p0.Seq != p1.Seq) (
   (some (.ret [.d (.bool false)] [] []))) (
  cond ((List.length (List.map api_Prop.enc p0.Props) : Int) != (List.length (List.map api_Prop.enc p1.Props) : Int)) (
   (some (.ret [.d (.bool false)] [] []))) (
  R47_3 (C47 Γ) Λ2 J (api_Message.enc p0) (api_Message.enc p1)))))))))) := by kernel_rfl
theorem T47_4 (Γ : Fun)  (Λ2 J : Lam) (x71 : (List api_Prop)) (x72 : Int) (x73 : Int) (b0 : api_Message) : labU SE (C47 Γ) Λ2 J 47 0 [1, 1, 0, 1, 0] (stoOf [(3, .ptr 1000000000 0), (71, .d (.sl api_Prop.ks (List.map api_Prop.enc x71))), (72, .d (.int .i64 x72)), (73, .d (.int .i64 x73))] [⟨31, (List.map AV.d (api_Message.enc b0))⟩] [] [] []) =
  cond (decide (x73 < x72)) (
   cond (decide (0 ≤ x73) && decide (x73 < (List.length (List.map api_Prop.enc x71) : Int))) (
    cond (decide (0 ≤ x73) && decide (x73 < (List.length (List.map api_Prop.enc b0.Props) : Int))) (
     cond (!(((dStr (cellAt (elemAt (List.map api_Prop.enc x71) (Int.toNat x73)) 0)) == (dStr (cellAt (elemAt (List.map api_Prop.enc b0.Props) (Int.toNat x73)) 0))) && (((dStr (cellAt (elemAt (List.map api_Prop.enc x71) (Int.toNat x73)) 1)) == (dStr (cellAt (elemAt (List.map api_Prop.enc b0.Props) (Int.toNat x73)) 1))) && true))) (
      (some (.ret [.d (.bool false)] [] []))) (
     R47_4 (C47 Γ) Λ2 J (List.map api_Prop.enc x71) x72 (IntKind.wrap .i64 (x73 + 1)) (api_Message.enc b0))) none) none) (
  (some (.ret [.d (.bool true)] [] []))) := by kernel_rfl
theorem T47_3 (Γ : Fun)  (Λ2 J : Lam) (b0 : api_Message) (b1 : api_Message) : labU SE (C47 Γ) Λ2 J 47 0 [1, 1, 0, 0] (stoOf [(2, .ptr 1000000000 0), (3, .ptr 1000000001 0)] [⟨31, (List.map AV.d (api_Message.enc b0))⟩, ⟨31, (List.map AV.d (api_Message.enc b1))⟩] [] [] []) =
  R47_4 (C47 Γ) Λ2 J (List.map api_Prop.enc b0.Props) (List.length (List.map api_Prop.enc b0.Props) : Int) 0 (api_Message.enc b1) := by kernel_rfl
abbrev X47 : CFun := C47 (callG SE good)
theorem Cr47 : C47 (callG SE good) = bindC (callG SE good) := by unfold C47; rfl
noncomputable abbrev Q47_4 (a0 : (List (List D))) (a1 : Int) (a2 : Int) (a3 : (List D)) : Res := R47_4 X47 (lam2 SE (callG SE good) (SE.hl 47) (SE.hr 47)) (J0 SE X47) a0 a1 a2 a3
noncomputable abbrev Q47_3 (a0 : (List D)) (a1 : (List D)) : Res := R47_3 X47 (lam2 SE (callG SE good) (SE.hl 47) (SE.hr 47)) (J0 SE X47) a0 a1
theorem message_Same_l4_ok : ∀ (fu : Nat) (x71 : (List api_Prop)) (x72 : Int) (x73 : Int) (b0 : api_Message), Le (Option.map message_Same_out (message_Same_l4 fu x71 x72 x73 b0)) (Q47_4 (List.map api_Prop.enc x71) x72 x73 (api_Message.enc b0)) := by
  intro fu
  induction fu with
  | zero => intros; exact le_none
  | succ fu ih =>
    intro x71 x72 x73 b0
    refine Le.trans ?_ (le_of_eq ((lab_realC Cr47).trans (T47_4 _ _ _  x71 x72 x73 b0)).symm)
    unfold message_Same_l4
    refine le_cond rfl (fun _ => ?_) (fun _ => ?_)
    · skip
      refine le_cond (by simp only [EN]) (fun _ => ?_) (fun _ => le_none)
      refine le_cond (by simp only [EN]) (fun _ => ?_) (fun _ => le_none)
      refine le_cond (by simp only [EN]) (fun _ => ?_) (fun _ => ?_)
      · skip
        exact le_ret (by first | rfl | (simp only [EN, message_Same_out]; done) | (simp only [EN, message_Same_out]; rfl))
      · skip
        exact ih x71 x72 (IntKind.wrap .i64 (x73 + 1)) b0
    · skip
      exact le_ret (by first | rfl | (simp only [EN, message_Same_out]; done) | (simp only [EN, message_Same_out]; rfl))
theorem message_Same_j3_ok (b0 : api_Message) (b1 : api_Message) : Le (Option.map message_Same_out (message_Same_j3 b0 b1)) (Q47_3 (api_Message.enc b0) (api_Message.enc b1)) := by
  refine Le.trans ?_ (le_of_eq ((lab_realC Cr47).trans (T47_3 _ _ _  b0 b1)).symm)
  unfold message_Same_j3
  first | (simp only [EN]; exact message_Same_l4_ok fuel b0.Props (List.length b0.Props : Int) 0 b1) | exact message_Same_l4_ok fuel b0.Props (List.length b0.Props : Int) 0 b1
theorem message_Same_ok (p0 : api_Message) (p1 : api_Message) : Le (Option.map message_Same_out (message_Same p0 p1)) (callW SE 47 [api_Message.av p0, api_Message.av p1] [] []) := by
  refine le_bodyC Cr47 rfl ?_
  refine Le.trans ?_ (le_of_eq (T47 _ _ _  p0 p1).symm)
  unfold message_Same
  refine le_cond rfl (fun _ => ?_) (fun _ => ?_)
  · skip
    exact le_ret (by first | rfl | (simp only [EN, message_Same_out]; done) | (simp only [EN, message_Same_out]; rfl))
  · skip
    refine le_cond rfl (fun _ => ?_) (fun _ => ?_)
    · skip
      exact le_ret (by first | rfl | (simp only [EN, message_Same_out]; done) | (simp only [EN, message_Same_out]; rfl))
    · skip
      refine le_cond rfl (fun _ => ?_) (fun _ => ?_)
      · skip
        exact le_ret (by first | rfl | (simp only [EN, message_Same_out]; done) | (simp only [EN, message_Same_out]; rfl))
      · skip
        refine le_cond rfl (fun _ => ?_) (fun _ => ?_)
        · skip
          exact le_ret (by first | rfl | (simp only [EN, message_Same_out]; done) | (simp only [EN, message_Same_out]; rfl))
        · skip
          refine le_cond rfl (fun _ => ?_) (fun _ => ?_)
          · skip
            exact le_ret (by first | rfl | (simp only [EN, message_Same_out]; done) | (simp only [EN, message_Same_out]; rfl))
          · skip
            refine le_cond rfl (fun _ => ?_) (fun _ => ?_)
            · skip
              exact le_ret (by first | rfl | (simp only [EN, message_Same_out]; done) | (simp only [EN, message_Same_out]; rfl))
            · skip
              refine le_cond rfl (fun _ => ?_) (fun _ => ?_)
              · skip
                exact le_ret (by first | rfl | (simp only [EN, message_Same_out]; done) | (simp only [EN, message_Same_out]; rfl))
              · skip
                refine le_cond rfl (fun _ => ?_) (fun _ => ?_)
                · skip
                  exact le_ret (by first | rfl | (simp only [EN, message_Same_out]; done) | (simp only [EN, message_Same_out]; rfl))
                · skip
                  refine le_cond (by simp only [EN]) (fun _ => ?_) (fun _ => ?_)
                  · skip
                    exact le_ret (by first | rfl | (simp only [EN, message_Same_out]; done) | (simp only [EN, message_Same_out]; rfl))
                  · skip
                    exact message_Same_j3_ok p0 p1
def C48 (Γ : Fun)  : CFun := bindC Γ
def R48_4 (C : CFun) (Λ2 J : Lam) (a0 : (List (List D))) (a1 : (List (List D))) (a2 : Int) (a3 : Int) : Res := lab SE C Λ2 J 48 0 [1, 1, 0, 1, 0] (stoOf [(1, .d (.sl api_Sub.ks a0)), (12, .d (.sl api_Sub.ks a1)), (13, .d (.int .i64 a2)), (14, .d (.int .i64 a3))] [] [] [] [])
theorem T48 (Γ : Fun)  (Λ2 J : Lam) (p0 : (List api_Sub)) (p1 : (List api_Sub)) : bodyC SE (C48 Γ) Λ2 J 48 [.d (.sl api_Sub.ks (List.map api_Sub.enc p0)), .d (.sl api_Sub.ks (List.map api_Sub.enc p1))] [] [] =
  cond ((List.length (List.map api_Sub.enc p0) : Int) != (List.length (List.map api_Sub.enc p1) : Int)) (
   (some (.ret [.d (.bool false)] [] []))) (
  R48_4 (C48 Γ) Λ2 J (List.map api_Sub.enc p1) (List.map api_Sub.enc p0) (List.length (List.map api_Sub.enc p0) : Int) 0) := by kernel_rfl
theorem T48_4 (Γ : Fun)  (Λ2 J : Lam) (x1 : (List api_Sub)) (x12 : (List api_Sub)) (x13 : Int) (x14 : Int) : labU SE (C48 Γ) Λ2 J 48 0 [1, 1, 0, 1, 0] (stoOf [(1, .d (.sl api_Sub.ks (List.map api_Sub.enc x1))), (12, .d (.sl api_Sub.ks (List.map api_Sub.enc x12))), (13, .d (.int .i64 x13)), (14, .d (.int .i64 x14))] [] [] [] []) =
  cond (decide (x14 < x13)) (
   cond (decide (0 ≤ x14) && decide (x14 < (List.length (List.map api_Sub.enc x12) : Int))) (
    cond (decide (0 ≤ x14) && decide (x14 < (List.length (List.map api_Sub.enc x1) : Int))) (
     cond (!(((dStr (cellAt (elemAt (List.map api_Sub.enc x12) (Int.toNat x14)) 0)) == (dStr (cellAt (elemAt (List.map api_Sub.enc x1) (Int.toNat x14)) 0))) && (((dInt (cellAt (elemAt (List.map api_Sub.enc x12) (Int.toNat x14)) 1)) == (dInt (cellAt (elemAt (List.map api_Sub.enc x1) (Int.toNat x14)) 1))) && (((dBool (cellAt (elemAt (List.map api_Sub.enc x12) (Int.toNat x14)) 2)) == (dBool (cellAt (elemAt (List.map api_Sub.enc x1) (Int.toNat x14)) 2))) && true)))) (
      (some (.ret [.d (.bool false)] [] []))) (
     R48_4 (C48 Γ) Λ2 J (List.map api_Sub.enc x1) (List.map api_Sub.enc x12) x13 (IntKind.wrap .i64 (x14 + 1)))) none) none) (
  (some (.ret [.d (.bool true)] [] []))) := by kernel_rfl
abbrev X48 : CFun := C48 (callG SE good)
theorem Cr48 : C48 (callG SE good) = bindC (callG SE good) := by unfold C48; rfl
noncomputable abbrev Q48_4 (a0 : (List (List D))) (a1 : (List (List D))) (a2 : Int) (a3 : Int) : Res := R48_4 X48 (lam2 SE (callG SE good) (SE.hl 48) (SE.hr 48)) (J0 SE X48) a0 a1 a2 a3
theorem packet_subs_l4_ok : ∀ (fu : Nat) (x1 : (List api_Sub)) (x12 : (List api_Sub)) (x13 : Int) (x14 : Int), Le (Option.map packet_subs_out (packet_subs_l4 fu x1 x12 x13 x14)) (Q48_4 (List.map api_Sub.enc x1) (List.map api_Sub.enc x12) x13 x14) := by
  intro fu
  induction fu with
  | zero => intros; exact le_none
  | succ fu ih =>
    intro x1 x12 x13 x14
    refine Le.trans ?_ (le_of_eq ((lab_realC Cr48).trans (T48_4 _ _ _  x1 x12 x13 x14)).symm)
    unfold packet_subs_l4
    refine le_cond rfl (fun _ => ?_) (fun _ => ?_)
    · skip
      refine le_cond (by simp only [EN]) (fun _ => ?_) (fun _ => le_none)
      refine le_cond (by simp only [EN]) (fun _ => ?_) (fun _ => le_none)
      refine le_cond (by simp only [EN]) (fun _ => ?_) (fun _ => ?_)
      · skip
        exact le_ret (by first | rfl | (simp only [EN, packet_subs_out]; done) | (simp only [EN, packet_subs_out]; rfl))
      · skip
        exact ih x1 x12 x13 (IntKind.wrap .i64 (x14 + 1))
    · skip
      exact le_ret (by first | rfl | (simp only [EN, packet_subs_out]; done) | (simp only [EN, packet_subs_out]; rfl))
theorem packet_subs_ok (p0 : (List api_Sub)) (p1 : (List api_Sub)) : Le (Option.map packet_subs_out (packet_subs p0 p1)) (callW SE 48 [.d (.sl api_Sub.ks (List.map api_Sub.enc p0)), .d (.sl api_Sub.ks (List.map api_Sub.enc p1))] [] []) := by
  refine le_bodyC Cr48 rfl ?_
  refine Le.trans ?_ (le_of_eq (T48 _ _ _  p0 p1).symm)
  unfold packet_subs
  refine le_cond (by simp only [EN]) (fun _ => ?_) (fun _ => ?_)
  · skip
    exact le_ret (by first | rfl | (simp only [EN, packet_subs_out]; done) | (simp only [EN, packet_subs_out]; rfl))
  · skip
    first | (simp only [EN]; exact packet_subs_l4_ok fuel p1 p0 (List.length p0 : Int) 0) | exact packet_subs_l4_ok fuel p1 p0 (List.length p0 : Int) 0
def C49 (Γ : Fun)  : CFun := bindC Γ
def R49_4 (C : CFun) (Λ2 J : Lam) (a0 : (List (List D))) (a1 : (List (List D))) (a2 : Int) (a3 : Int) : Res := lab SE C Λ2 J 49 0 [1, 1, 0, 1, 0] (stoOf [(1, .d (.sl [.str] a0)), (12, .d (.sl [.str] a1)), (13, .d (.int .i64 a2)), (14, .d (.int .i64 a3))] [] [] [] [])
theorem T49 (Γ : Fun)  (Λ2 J : Lam) (p0 : (List Str)) (p1 : (List Str)) : bodyC SE (C49 Γ) Λ2 J 49 [.d (.sl [.str] (List.map encS p0)), .d (.sl [.str] (List.map encS p1))] [] [] =
  cond ((List.length (List.map encS p0) : Int) != (List.length (List.map encS p1) : Int)) (
   (some (.ret [.d (.bool false)] [] []))) (
  R49_4 (C49 Γ) Λ2 J (List.map encS p1) (List.map encS p0) (List.length (List.map encS p0) : Int) 0) := by kernel_rfl
theorem T49_4 (Γ : Fun)  (Λ2 J : Lam) (x1 : (List Str)) (x12 : (List Str)) (x13 : Int) (x14 : Int) : labU SE (C49 Γ) Λ2 J 49 0 [1, 1, 0, 1, 0] (stoOf [(1, .d (.sl [.str] (List.map encS x1))), (12, .d (.sl [.str] (List.map encS x12))), (13, .d (.int .i64 x13)), (14, .d (.int .i64 x14))] [] [] [] []) =
  cond (decide (x14 < x13)) (
   cond (decide (0 ≤ x14) && decide (x14 < (List.length (List.map encS x12) : Int))) (
    cond (decide (0 ≤ x14) && decide (x14 < (List.length (List.map encS x1) : Int))) (
     cond (!((dStr (cellAt (elemAt (List.map encS x12) (Int.toNat x14)) 0)) == (dStr (cellAt (elemAt (List.map encS x1) (Int.toNat x14)) 0)))) (
      (some (.ret [.d (.bool false)] [] []))) (
     R49_4 (C49 Γ) Λ2 J (List.map encS x1) (List.map encS x12) x13 (IntKind.wrap .i64 (x14 + 1)))) none) none) (
  (some (.ret [.d (.bool true)] [] []))) := by kernel_rfl
abbrev X49 : CFun := C49 (callG SE good)
theorem Cr49 : C49 (callG SE good) = bindC (callG SE good) := by unfold C49; rfl
noncomputable abbrev Q49_4 (a0 : (List (List D))) (a1 : (List (List D))) (a2 : Int) (a3 : Int) : Res := R49_4 X49 (lam2 SE (callG SE good) (SE.hl 49) (SE.hr 49)) (J0 SE X49) a0 a1 a2 a3
theorem packet_texts_l4_ok : ∀ (fu : Nat) (x1 : (List Str)) (x12 : (List Str)) (x13 : Int) (x14 : Int), Le (Option.map packet_texts_out (packet_texts_l4 fu x1 x12 x13 x14)) (Q49_4 (List.map encS x1) (List.map encS x12) x13 x14) := by
  intro fu
  induction fu with
  | zero => intros; exact le_none
  | succ fu ih =>
    intro x1 x12 x13 x14
    refine Le.trans ?_ (le_of_eq ((lab_realC Cr49).trans (T49_4 _ _ _  x1 x12 x13 x14)).symm)
    unfold packet_texts_l4
    refine le_cond rfl (fun _ => ?_) (fun _ => ?_)
    · skip
      refine le_cond (by simp only [EN]) (fun _ => ?_) (fun _ => le_none)
      refine le_cond (by simp only [EN]) (fun _ => ?_) (fun _ => le_none)
      refine le_cond (by simp only [EN]) (fun _ => ?_) (fun _ => ?_)
      · skip
        exact le_ret (by first | rfl | (simp only [EN, packet_texts_out]; done) | (simp only [EN, packet_texts_out]; rfl))
      · skip
        exact ih x1 x12 x13 (IntKind.wrap .i64 (x14 + 1))
    · skip
      exact le_ret (by first | rfl | (simp only [EN, packet_texts_out]; done) | (simp only [EN, packet_texts_out]; rfl))
theorem packet_texts_ok (p0 : (List Str)) (p1 : (List Str)) : Le (Option.map packet_texts_out (packet_texts p0 p1)) (callW SE 49 [.d (.sl [.str] (List.map encS p0)), .d (.sl [.str] (List.map encS p1))] [] []) := by
  refine le_bodyC Cr49 rfl ?_
  refine Le.trans ?_ (le_of_eq (T49 _ _ _  p0 p1).symm)
  unfold packet_texts
  refine le_cond (by simp only [EN]) (fun _ => ?_) (fun _ => ?_)
  · skip
    exact le_ret (by first | rfl | (simp only [EN, packet_texts_out]; done) | (simp only [EN, packet_texts_out]; rfl))
  · skip
    first | (simp only [EN]; exact packet_texts_l4_ok fuel p1 p0 (List.length p0 : Int) 0) | exact packet_texts_l4_ok fuel p1 p0 (List.length p0 : Int) 0
def C50 (Γ : Fun)  : CFun := bindC Γ
def R50_4 (C : CFun) (Λ2 J : Lam) (a0 : (List (List D))) (a1 : (List (List D))) (a2 : Int) (a3 : Int) : Res := lab SE C Λ2 J 50 0 [1, 1, 0, 1, 0] (stoOf [(1, .d (.sl [.int .i64] a0)), (12, .d (.sl [.int .i64] a1)), (13, .d (.int .i64 a2)), (14, .d (.int .i64 a3))] [] [] [] [])
theorem T50 (Γ : Fun)  (Λ2 J : Lam) (p0 : (List Int)) (p1 : (List Int)) : bodyC SE (C50 Γ) Λ2 J 50 [.d (.sl [.int .i64] (List.map (encI .i64) p0)), .d (.sl [.int .i64] (List.map (encI .i64) p1))] [] [] =
  cond ((List.length (List.map (encI .i64) p0) : Int) != (List.length (List.map (encI .i64) p1) : Int)) (
   (some (.ret [.d (.bool false)] [] []))) (
  R50_4 (C50 Γ) Λ2 J (List.map (encI .i64) p1) (List.map (encI .i64) p0) (List.length (List.map (encI .i64) p0) : Int) 0) := by kernel_rfl
theorem T50_4 (Γ : Fun)  (Λ2 J : Lam) (x1 : (List Int)) (x12 : (List Int)) (x13 : Int) (x14 : Int) : labU SE (C50 Γ) Λ2 J 50 0 [1, 1, 0, 1, 0] (stoOf [(1, .d (.sl [.int .i64] (List.map (encI .i64) x1))), (12, .d (.sl [.int .i64] (List.map (encI .i64) x12))), (13, .d (.int .i64 x13)), (14, .d (.int .i64 x14))] [] [] [] []) =
  cond (decide (x14 < x13)) (
   cond (decide (0 ≤ x14) && decide (x14 < (List.length (List.map (encI .i64) x12) : Int))) (
    cond (decide (0 ≤ x14) && decide (x14 < (List.length (List.map (encI .i64) x1) : Int))) (
     cond ((dInt (cellAt (elemAt (List.map (encI .i64) x12) (Int.toNat x14)) 0)) != (dInt (cellAt (elemAt (List.map (encI .i64) x1) (Int.toNat x14)) 0))) (
      (some (.ret [.d (.bool false)] [] []))) (
     R50_4 (C50 Γ) Λ2 J (List.map (encI .i64) x1) (List.map (encI .i64) x12) x13 (IntKind.wrap .i64 (x14 + 1)))) none) none) (
  (some (.ret [.d (.bool true)] [] []))) := by kernel_rfl
abbrev X50 : CFun := C50 (callG SE good)
theorem Cr50 : C50 (callG SE good) = bindC (callG SE good) := by unfold C50; rfl
noncomputable abbrev Q50_4 (a0 : (List (List D))) (a1 : (List (List D))) (a2 : Int) (a3 : Int) : Res := R50_4 X50 (lam2 SE (callG SE good) (SE.hl 50) (SE.hr 50)) (J0 SE X50) a0 a1 a2 a3
theorem packet_numbers_l4_ok : ∀ (fu : Nat) (x1 : (List Int)) (x12 : (List Int)) (x13 : Int) (x14 : Int), Le (Option.map packet_numbers_out (packet_numbers_l4 fu x1 x12 x13 x14)) (Q50_4 (List.map (encI .i64) x1) (List.map (encI .i64) x12) x13 x14) := by
  intro fu
  induction fu with
  | zero => intros; exact le_none
  | succ fu ih =>
    intro x1 x12 x13 x14
    refine Le.trans ?_ (le_of_eq ((lab_realC Cr50).trans (T50_4 _ _ _  x1 x12 x13 x14)).symm)
    unfold packet_numbers_l4
    refine le_cond rfl (fun _ => ?_) (fun _ => ?_)
    · skip
      refine le_cond (by simp only [EN]) (fun _ => ?_) (fun _ => le_none)
      refine le_cond (by simp only [EN]) (fun _ => ?_) (fun _ => le_none)
      refine le_cond (by simp only [EN]) (fun _ => ?_) (fun _ => ?_)
      · skip
        exact le_ret (by first | rfl | (simp only [EN, packet_numbers_out]; done) | (simp only [EN, packet_numbers_out]; rfl))
      · skip
        exact ih x1 x12 x13 (IntKind.wrap .i64 (x14 + 1))
    · skip
      exact le_ret (by first | rfl | (simp only [EN, packet_numbers_out]; done) | (simp only [EN, packet_numbers_out]; rfl))
theorem packet_numbers_ok (p0 : (List Int)) (p1 : (List Int)) : Le (Option.map packet_numbers_out (packet_numbers p0 p1)) (callW SE 50 [.d (.sl [.int .i64] (List.map (encI .i64) p0)), .d (.sl [.int .i64] (List.map (encI .i64) p1))] [] []) := by
  refine le_bodyC Cr50 rfl ?_
  refine Le.trans ?_ (le_of_eq (T50 _ _ _  p0 p1).symm)
  unfold packet_numbers
  refine le_cond (by simp only [EN]) (fun _ => ?_) (fun _ => ?_)
  · skip
    exact le_ret (by first | rfl | (simp only [EN, packet_numbers_out]; done) | (simp only [EN, packet_numbers_out]; rfl))
  · skip
    first | (simp only [EN]; exact packet_numbers_l4_ok fuel p1 p0 (List.length p0 : Int) 0) | exact packet_numbers_l4_ok fuel p1 p0 (List.length p0 : Int) 0
def C35 (Γ : Fun) (γ46 : Gm (packet_plain)) (γ47 : Gm (Bool)) (γ48 : Gm (Bool)) (γ49 : Gm (Bool)) (γ50 : Gm (Bool)) : CFun := updC (updC (updC (updC (updC (bindC Γ) 46 packet_plainOf_out γ46) 47 message_Same_out γ47) 48 packet_subs_out γ48) 49 packet_texts_out γ49) 50 packet_numbers_out γ50
theorem T35 (Γ : Fun) (γ46 : Gm (packet_plain)) (γ47 : Gm (Bool)) (γ48 : Gm (Bool)) (γ49 : Gm (Bool)) (γ50 : Gm (Bool)) (Λ2 J : Lam) (p0 : api_Packet) (p1 : api_Packet) : bodyC SE (C35 Γ γ46 γ47 γ48 γ49 γ50) Λ2 J 35 [api_Packet.av p0, api_Packet.av p1] [] [] =
  γ46 [api_Packet.av p0] [] [] fun r0 =>
  γ46 [api_Packet.av p1] [] [] fun r1 =>
  cond ((r0.kind == r1.kind) && ((r0.id == r1.id) && ((r0.keep == r1.keep) && ((r0.expiry == r1.expiry) && ((r0.window == r1.window) && ((r0.code == r1.code) && ((r0.delay == r1.delay) && ((r0.dup == r1.dup) && ((r0.clean == r1.clean) && ((r0.present == r1.present) && ((r0.set_ == r1.set_) && ((r0.client == r1.client) && ((r0.user == r1.user) && true))))))))))))) (
   γ47 [api_Message.av p0.Message, api_Message.av p1.Message] [] [] fun r2 =>
   cond r2 (
    γ47 [api_Message.av p0.Will.Message, api_Message.av p1.Will.Message] [] [] fun r3 =>
    cond r3 (
     γ48 [.d (.sl api_Sub.ks (List.map api_Sub.enc p0.Subs)), .d (.sl api_Sub.ks (List.map api_Sub.enc p1.Subs))] [] [] fun r4 =>
     cond r4 (
      γ49 [.d (.sl [.str] (List.map encS p0.Filters)), .d (.sl [.str] (List.map encS p1.Filters))] [] [] fun r5 =>
      cond r5 (
       γ50 [.d (.sl [.int .i64] (List.map (encI .i64) p0.Codes)), .d (.sl [.int .i64] (List.map (encI .i64) p1.Codes))] [] [] fun r6 =>
       (some (.ret [.d (.bool r6)] [] []))) (
      (some (.ret [.d (.bool false)] [] [])))) (
     (some (.ret [.d (.bool false)] [] [])))) (
    (some (.ret [.d (.bool false)] [] [])))) (
   (some (.ret [.d (.bool false)] [] [])))) (
  (some (.ret [.d (.bool false)] [] []))) := by kernel_rfl
abbrev X35 : CFun := C35 (callG SE good) (callT SE good 46 packet_plainOf_out) (callT SE good 47 message_Same_out) (callT SE good 48 packet_subs_out) (callT SE good 49 packet_texts_out) (callT SE good 50 packet_numbers_out)
theorem Cr35 : C35 (callG SE good) (callT SE good 46 packet_plainOf_out) (callT SE good 47 message_Same_out) (callT SE good 48 packet_subs_out) (callT SE good 49 packet_texts_out) (callT SE good 50 packet_numbers_out) = bindC (callG SE good) := by unfold C35; rw [updC_real (fun _ h => h), updC_real (fun _ h => h), updC_real (fun _ h => h), updC_real (fun _ h => h), updC_real (fun _ h => h)]
theorem packet_Same_ok (p0 : api_Packet) (p1 : api_Packet) : Le (Option.map packet_Same_out (packet_Same p0 p1)) (callW SE 35 [api_Packet.av p0, api_Packet.av p1] [] []) := by
  refine le_bodyC Cr35 rfl ?_
  refine Le.trans ?_ (le_of_eq (T35 _ _ _ _ _ _ _ _  p0 p1).symm)
  unfold packet_Same
  refine le_call (good := good) (fun y => ⟨y, rfl⟩) packet_plainOf_inj (packet_plainOf_ok p0) (fun r0 _ => ?_)
  refine le_call (good := good) (fun y => ⟨y, rfl⟩) packet_plainOf_inj (packet_plainOf_ok p1) (fun r1 _ => ?_)
  refine le_cond rfl (fun _ => ?_) (fun _ => ?_)
  · skip
    refine le_call (good := good) (fun y => ⟨y, rfl⟩) message_Same_inj (message_Same_ok p0.Message p1.Message) (fun r2 _ => ?_)
    refine le_cond rfl (fun _ => ?_) (fun _ => ?_)
    · skip
      refine le_call (good := good) (fun y => ⟨y, rfl⟩) message_Same_inj (message_Same_ok p0.Will.Message p1.Will.Message) (fun r3 _ => ?_)
      refine le_cond rfl (fun _ => ?_) (fun _ => ?_)
      · skip
        refine le_call (good := good) (fun y => ⟨y, rfl⟩) packet_subs_inj (packet_subs_ok p0.Subs p1.Subs) (fun r4 _ => ?_)
        refine le_cond rfl (fun _ => ?_) (fun _ => ?_)
        · skip
          refine le_call (good := good) (fun y => ⟨y, rfl⟩) packet_texts_inj (packet_texts_ok p0.Filters p1.Filters) (fun r5 _ => ?_)
          refine le_cond rfl (fun _ => ?_) (fun _ => ?_)
          · skip
            refine le_call (good := good) (fun y => ⟨y, rfl⟩) packet_numbers_inj (packet_numbers_ok p0.Codes p1.Codes) (fun r6 _ => ?_)
            exact le_ret (by first | rfl | (simp only [EN, packet_Same_out]; done) | (simp only [EN, packet_Same_out]; rfl))
          · skip
            exact le_ret (by first | rfl | (simp only [EN, packet_Same_out]; done) | (simp only [EN, packet_Same_out]; rfl))
        · skip
          exact le_ret (by first | rfl | (simp only [EN, packet_Same_out]; done) | (simp only [EN, packet_Same_out]; rfl))
      · skip
        exact le_ret (by first | rfl | (simp only [EN, packet_Same_out]; done) | (simp only [EN, packet_Same_out]; rfl))
    · skip
      exact le_ret (by first | rfl | (simp only [EN, packet_Same_out]; done) | (simp only [EN, packet_Same_out]; rfl))
  · skip
    exact le_ret (by first | rfl | (simp only [EN, packet_Same_out]; done) | (simp only [EN, packet_Same_out]; rfl))
def C51 (Γ : Fun)  : CFun := bindC Γ
def R51_7 (C : CFun) (Λ2 J : Lam) (a0 : Int) (a1 : Int) (a2 : Bool) (a3 : Str) (a4 : Nat) : Res := lab SE C Λ2 J 51 0 [1, 1, 0, 1, 0, 0, 1, 1, 0, 1, 1, 0] (stoOf [(3, .d (.int .i64 a0)), (4, .d (.int .i32 a1)), (5, .d (.bool a2)), (15, .it 4000)] [] [] [(4000, (a3, a4))] [])
def R51_4 (C : CFun) (Λ2 J : Lam) (a0 : Str) (a1 : Nat) : Res := lab SE C Λ2 J 51 0 [1, 1, 0, 1, 0] (stoOf [(15, .it 4000)] [] [] [(4000, (a0, a1))] [])
def R51_3 (C : CFun) (Λ2 J : Lam) (a0 : Str) : Res := lab SE C Λ2 J 51 0 [1, 1, 0, 0] (stoOf [(0, .d (.str a0))] [] [] [] [])
theorem T51 (Γ : Fun)  (Λ2 J : Lam) (p0 : Str) : bodyC SE (C51 Γ) Λ2 J 51 [.d (.str p0)] [] [] =
  cond (decide ((List.length p0 : Int) < 1)) (
   (some (.ret [.d (.bool false)] [] []))) (
  cond (decide ((List.length p0 : Int) > 16)) (
   (some (.ret [.d (.bool false)] [] []))) (
  R51_3 (C51 Γ) Λ2 J p0)) := by kernel_rfl
theorem T51_7 (Γ : Fun)  (Λ2 J : Lam) (x3 : Int) (x4 : Int) (x5 : Bool) (s4000 : Str) (i4000 : Nat) : labU SE (C51 Γ) Λ2 J 51 0 [1, 1, 0, 1, 0, 0, 1, 1, 0, 1, 1, 0] (stoOf [(3, .d (.int .i64 x3)), (4, .d (.int .i32 x4)), (5, .d (.bool x5)), (15, .it 4000)] [] [] [(4000, (s4000, i4000))] []) =
  cond (!x5) (
   cond (x3 == 0) (
    (some (.ret [.d (.bool false)] [] []))) (
   cond (x4 != 45) (
    cond (decide (x4 < 48)) (
     (some (.ret [.d (.bool false)] [] []))) (
    cond (decide (x4 > 57)) (
     (some (.ret [.d (.bool false)] [] []))) (
    R51_4 (C51 Γ) Λ2 J s4000 i4000))) (
   R51_4 (C51 Γ) Λ2 J s4000 i4000))) (
  R51_4 (C51 Γ) Λ2 J s4000 i4000) := by kernel_rfl
theorem T51_4 (Γ : Fun)  (Λ2 J : Lam) (s4000 : Str) (i4000 : Nat) : labU SE (C51 Γ) Λ2 J 51 0 [1, 1, 0, 1, 0] (stoOf [(15, .it 4000)] [] [] [(4000, (s4000, i4000))] []) =
  cond (decide (i4000 < List.length s4000)) (
   cond (decide (((dec s4000 i4000).1 : Int) ≥ 97)) (
    R51_7 (C51 Γ) Λ2 J (i4000 : Int) ((dec s4000 i4000).1 : Int) (decide (((dec s4000 i4000).1 : Int) ≤ 122)) s4000 (i4000 + (dec s4000 i4000).2)) (
   R51_7 (C51 Γ) Λ2 J (i4000 : Int) ((dec s4000 i4000).1 : Int) false s4000 (i4000 + (dec s4000 i4000).2))) (
  (some (.ret [.d (.bool true)] [] []))) := by kernel_rfl
theorem T51_3 (Γ : Fun)  (Λ2 J : Lam) (x0 : Str) : labU SE (C51 Γ) Λ2 J 51 0 [1, 1, 0, 0] (stoOf [(0, .d (.str x0))] [] [] [] []) =
  R51_4 (C51 Γ) Λ2 J x0 0 := by kernel_rfl
abbrev X51 : CFun := C51 (callG SE good)
theorem Cr51 : C51 (callG SE good) = bindC (callG SE good) := by unfold C51; rfl
noncomputable abbrev Q51_7 (a0 : Int) (a1 : Int) (a2 : Bool) (a3 : Str) (a4 : Nat) : Res := R51_7 X51 (lam2 SE (callG SE good) (SE.hl 51) (SE.hr 51)) (J0 SE X51) a0 a1 a2 a3 a4
noncomputable abbrev Q51_4 (a0 : Str) (a1 : Nat) : Res := R51_4 X51 (lam2 SE (callG SE good) (SE.hl 51) (SE.hr 51)) (J0 SE X51) a0 a1
noncomputable abbrev Q51_3 (a0 : Str) : Res := R51_3 X51 (lam2 SE (callG SE good) (SE.hl 51) (SE.hr 51)) (J0 SE X51) a0
theorem topic_Name_j7_ok (k4 : Str → Nat → Option (Bool)) (hk4 : ∀ (s4000 : Str) (i4000 : Nat), Le (Option.map topic_Name_out (k4 s4000 i4000)) (Q51_4 s4000 i4000)) (x3 : Int) (x4 : Int) (x5 : Bool) (s4000 : Str) (i4000 : Nat) : Le (Option.map topic_Name_out (topic_Name_j7 k4 x3 x4 x5 s4000 i4000)) (Q51_7 x3 x4 x5 s4000 i4000) := by
  refine Le.trans ?_ (le_of_eq ((lab_realC Cr51).trans (T51_7 _ _ _  x3 x4 x5 s4000 i4000)).symm)
  unfold topic_Name_j7
  refine le_cond rfl (fun _ => ?_) (fun _ => ?_)
  · skip
    refine le_cond rfl (fun _ => ?_) (fun _ => ?_)
    · skip
      exact le_ret (by first | rfl | (simp only [EN, topic_Name_out]; done) | (simp only [EN, topic_Name_out]; rfl))
    · skip
      refine le_cond rfl (fun _ => ?_) (fun _ => ?_)
      · skip
        refine le_cond rfl (fun _ => ?_) (fun _ => ?_)
        · skip
          exact le_ret (by first | rfl | (simp only [EN, topic_Name_out]; done) | (simp only [EN, topic_Name_out]; rfl))
        · skip
          refine le_cond rfl (fun _ => ?_) (fun _ => ?_)
          · skip
            exact le_ret (by first | rfl | (simp only [EN, topic_Name_out]; done) | (simp only [EN, topic_Name_out]; rfl))
          · skip
            exact hk4 s4000 i4000
      · skip
        exact hk4 s4000 i4000
  · skip
    exact hk4 s4000 i4000
theorem topic_Name_l4_ok : ∀ (fu : Nat) (s4000 : Str) (i4000 : Nat), Le (Option.map topic_Name_out (topic_Name_l4 fu s4000 i4000)) (Q51_4 s4000 i4000) := by
  intro fu
  induction fu with
  | zero => intros; exact le_none
  | succ fu ih =>
    intro s4000 i4000
    refine Le.trans ?_ (le_of_eq ((lab_realC Cr51).trans (T51_4 _ _ _  s4000 i4000)).symm)
    unfold topic_Name_l4
    refine le_cond rfl (fun _ => ?_) (fun _ => ?_)
    · skip
      refine le_cond rfl (fun _ => ?_) (fun _ => ?_)
      · skip
        exact topic_Name_j7_ok _ (ih) (i4000 : Int) ((dec s4000 i4000).1 : Int) (decide (((dec s4000 i4000).1 : Int) ≤ 122)) s4000 (i4000 + (dec s4000 i4000).2)
      · skip
        exact topic_Name_j7_ok _ (ih) (i4000 : Int) ((dec s4000 i4000).1 : Int) false s4000 (i4000 + (dec s4000 i4000).2)
    · skip
      exact le_ret (by first | rfl | (simp only [EN, topic_Name_out]; done) | (simp only [EN, topic_Name_out]; rfl))
theorem topic_Name_j3_ok (x0 : Str) : Le (Option.map topic_Name_out (topic_Name_j3 x0)) (Q51_3 x0) := by
  refine Le.trans ?_ (le_of_eq ((lab_realC Cr51).trans (T51_3 _ _ _  x0)).symm)
  unfold topic_Name_j3
  exact topic_Name_l4_ok fuel x0 0
theorem topic_Name_ok (p0 : Str) : Le (Option.map topic_Name_out (topic_Name p0)) (callW SE 51 [.d (.str p0)] [] []) := by
  refine le_bodyC Cr51 rfl ?_
  refine Le.trans ?_ (le_of_eq (T51 _ _ _  p0).symm)
  unfold topic_Name
  refine le_cond rfl (fun _ => ?_) (fun _ => ?_)
  · skip
    exact le_ret (by first | rfl | (simp only [EN, topic_Name_out]; done) | (simp only [EN, topic_Name_out]; rfl))
  · skip
    refine le_cond rfl (fun _ => ?_) (fun _ => ?_)
    · skip
      exact le_ret (by first | rfl | (simp only [EN, topic_Name_out]; done) | (simp only [EN, topic_Name_out]; rfl))
    · skip
      exact topic_Name_j3_ok p0
def C64 (Γ : Fun)  : CFun := bindC Γ
def R64_5 (C : CFun) (Λ2 J : Lam) (a0 : Int) (a1 : Str) (a2 : Nat) : Res := lab SE C Λ2 J 64 0 [1, 1, 1, 0, 1, 0] (stoOf [(3, .d (.int .i64 a0)), (15, .it 4000)] [] [] [(4000, (a1, a2))] [])
def R64_3 (C : CFun) (Λ2 J : Lam) (a0 : Str) : Res := lab SE C Λ2 J 64 0 [1, 1, 0] (stoOf [(0, .d (.str a0))] [] [] [] [])
theorem T64 (Γ : Fun)  (Λ2 J : Lam) (p0 : Str) : bodyC SE (C64 Γ) Λ2 J 64 [.d (.str p0)] [] [] =
  cond (decide ((List.length p0 : Int) < 1)) (
   (some (.ret [.d (.bool false)] [] []))) (
  cond (decide ((List.length p0 : Int) > 64)) (
   (some (.ret [.d (.bool false)] [] []))) (
  R64_3 (C64 Γ) Λ2 J p0)) := by kernel_rfl
theorem T64_5 (Γ : Fun)  (Λ2 J : Lam) (x3 : Int) (s4000 : Str) (i4000 : Nat) : labU SE (C64 Γ) Λ2 J 64 0 [1, 1, 1, 0, 1, 0] (stoOf [(3, .d (.int .i64 x3)), (15, .it 4000)] [] [] [(4000, (s4000, i4000))] []) =
  cond (decide (i4000 < List.length s4000)) (
   cond (((dec s4000 i4000).1 : Int) == 0) (
    (some (.ret [.d (.bool false)] [] []))) (
   cond (((dec s4000 i4000).1 : Int) == 47) (
    R64_5 (C64 Γ) Λ2 J (IntKind.wrap .i64 (x3 + 1)) s4000 (i4000 + (dec s4000 i4000).2)) (
   R64_5 (C64 Γ) Λ2 J x3 s4000 (i4000 + (dec s4000 i4000).2)))) (
  (some (.ret [.d (.bool (decide (x3 ≤ 8)))] [] []))) := by kernel_rfl
theorem T64_3 (Γ : Fun)  (Λ2 J : Lam) (x0 : Str) : labU SE (C64 Γ) Λ2 J 64 0 [1, 1, 0] (stoOf [(0, .d (.str x0))] [] [] [] []) =
  R64_5 (C64 Γ) Λ2 J 1 x0 0 := by kernel_rfl
abbrev X64 : CFun := C64 (callG SE good)
theorem Cr64 : C64 (callG SE good) = bindC (callG SE good) := by unfold C64; rfl
noncomputable abbrev Q64_5 (a0 : Int) (a1 : Str) (a2 : Nat) : Res := R64_5 X64 (lam2 SE (callG SE good) (SE.hl 64) (SE.hr 64)) (J0 SE X64) a0 a1 a2
noncomputable abbrev Q64_3 (a0 : Str) : Res := R64_3 X64 (lam2 SE (callG SE good) (SE.hl 64) (SE.hr 64)) (J0 SE X64) a0
theorem topic_sized_l5_ok : ∀ (fu : Nat) (x3 : Int) (s4000 : Str) (i4000 : Nat), Le (Option.map topic_sized_out (topic_sized_l5 fu x3 s4000 i4000)) (Q64_5 x3 s4000 i4000) := by
  intro fu
  induction fu with
  | zero => intros; exact le_none
  | succ fu ih =>
    intro x3 s4000 i4000
    refine Le.trans ?_ (le_of_eq ((lab_realC Cr64).trans (T64_5 _ _ _  x3 s4000 i4000)).symm)
    unfold topic_sized_l5
    refine le_cond rfl (fun _ => ?_) (fun _ => ?_)
    · skip
      refine le_cond rfl (fun _ => ?_) (fun _ => ?_)
      · skip
        exact le_ret (by first | rfl | (simp only [EN, topic_sized_out]; done) | (simp only [EN, topic_sized_out]; rfl))
      · skip
        refine le_cond rfl (fun _ => ?_) (fun _ => ?_)
        · skip
          exact ih (IntKind.wrap .i64 (x3 + 1)) s4000 (i4000 + (dec s4000 i4000).2)
        · skip
          exact ih x3 s4000 (i4000 + (dec s4000 i4000).2)
    · skip
      exact le_ret (by first | rfl | (simp only [EN, topic_sized_out]; done) | (simp only [EN, topic_sized_out]; rfl))
theorem topic_sized_j3_ok (x0 : Str) : Le (Option.map topic_sized_out (topic_sized_j3 x0)) (Q64_3 x0) := by
  refine Le.trans ?_ (le_of_eq ((lab_realC Cr64).trans (T64_3 _ _ _  x0)).symm)
  unfold topic_sized_j3
  exact topic_sized_l5_ok fuel 1 x0 0
theorem topic_sized_ok (p0 : Str) : Le (Option.map topic_sized_out (topic_sized p0)) (callW SE 64 [.d (.str p0)] [] []) := by
  refine le_bodyC Cr64 rfl ?_
  refine Le.trans ?_ (le_of_eq (T64 _ _ _  p0).symm)
  unfold topic_sized
  refine le_cond rfl (fun _ => ?_) (fun _ => ?_)
  · skip
    exact le_ret (by first | rfl | (simp only [EN, topic_sized_out]; done) | (simp only [EN, topic_sized_out]; rfl))
  · skip
    refine le_cond rfl (fun _ => ?_) (fun _ => ?_)
    · skip
      exact le_ret (by first | rfl | (simp only [EN, topic_sized_out]; done) | (simp only [EN, topic_sized_out]; rfl))
    · skip
      exact topic_sized_j3_ok p0
def C57 (Γ : Fun) (γ64 : Gm (Bool)) : CFun := updC (bindC Γ) 64 topic_sized_out γ64
def R57_4 (C : CFun) (Λ2 J : Lam) (a0 : Str) (a1 : Nat) : Res := lab SE C Λ2 J 57 0 [1, 1, 0, 1, 0] (stoOf [(9, .it 4000)] [] [] [(4000, (a0, a1))] [])
theorem T57 (Γ : Fun) (γ64 : Gm (Bool)) (Λ2 J : Lam) (p0 : Str) : bodyC SE (C57 Γ γ64) Λ2 J 57 [.d (.str p0)] [] [] =
  γ64 [.d (.str p0)] [] [] fun r0 =>
  cond (!r0) (
   (some (.ret [.d (.bool false)] [] []))) (
  R57_4 (C57 Γ γ64) Λ2 J p0 0) := by kernel_rfl
theorem T57_4 (Γ : Fun) (γ64 : Gm (Bool)) (Λ2 J : Lam) (s4000 : Str) (i4000 : Nat) : labU SE (C57 Γ γ64) Λ2 J 57 0 [1, 1, 0, 1, 0] (stoOf [(9, .it 4000)] [] [] [(4000, (s4000, i4000))] []) =
  cond (decide (i4000 < List.length s4000)) (
   cond (((dec s4000 i4000).1 : Int) == 43) (
    (some (.ret [.d (.bool false)] [] []))) (
   cond (((dec s4000 i4000).1 : Int) == 35) (
    (some (.ret [.d (.bool false)] [] []))) (
   R57_4 (C57 Γ γ64) Λ2 J s4000 (i4000 + (dec s4000 i4000).2)))) (
  (some (.ret [.d (.bool true)] [] []))) := by kernel_rfl
abbrev X57 : CFun := C57 (callG SE good) (callT SE good 64 topic_sized_out)
theorem Cr57 : C57 (callG SE good) (callT SE good 64 topic_sized_out) = bindC (callG SE good) := by unfold C57; rw [updC_real (fun _ h => h)]
noncomputable abbrev Q57_4 (a0 : Str) (a1 : Nat) : Res := R57_4 X57 (lam2 SE (callG SE good) (SE.hl 57) (SE.hr 57)) (J0 SE X57) a0 a1
theorem topic_Valid_l4_ok : ∀ (fu : Nat) (s4000 : Str) (i4000 : Nat), Le (Option.map topic_Valid_out (topic_Valid_l4 fu s4000 i4000)) (Q57_4 s4000 i4000) := by
  intro fu
  induction fu with
  | zero => intros; exact le_none
  | succ fu ih =>
    intro s4000 i4000
    refine Le.trans ?_ (le_of_eq ((lab_realC Cr57).trans (T57_4 _ _ _ _  s4000 i4000)).symm)
    unfold topic_Valid_l4
    refine le_cond rfl (fun _ => ?_) (fun _ => ?_)
    · skip
      refine le_cond rfl (fun _ => ?_) (fun _ => ?_)
      · skip
        exact le_ret (by first | rfl | (simp only [EN, topic_Valid_out]; done) | (simp only [EN, topic_Valid_out]; rfl))
      · skip
        refine le_cond rfl (fun _ => ?_) (fun _ => ?_)
        · skip
          exact le_ret (by first | rfl | (simp only [EN, topic_Valid_out]; done) | (simp only [EN, topic_Valid_out]; rfl))
        · skip
          exact ih s4000 (i4000 + (dec s4000 i4000).2)
    · skip
      exact le_ret (by first | rfl | (simp only [EN, topic_Valid_out]; done) | (simp only [EN, topic_Valid_out]; rfl))
theorem topic_Valid_ok (p0 : Str) : Le (Option.map topic_Valid_out (topic_Valid p0)) (callW SE 57 [.d (.str p0)] [] []) := by
  refine le_bodyC Cr57 rfl ?_
  refine Le.trans ?_ (le_of_eq (T57 _ _ _ _  p0).symm)
  unfold topic_Valid
  refine le_call (good := good) (fun y => ⟨y, rfl⟩) topic_sized_inj (topic_sized_ok p0) (fun r0 _ => ?_)
  refine le_cond rfl (fun _ => ?_) (fun _ => ?_)
  · skip
    exact le_ret (by first | rfl | (simp only [EN, topic_Valid_out]; done) | (simp only [EN, topic_Valid_out]; rfl))
  · skip
    exact topic_Valid_l4_ok fuel p0 0
def C58 (Γ : Fun)  : CFun := bindC Γ
theorem T58 (Γ : Fun)  (Λ2 J : Lam) (p0 : Int) (p1 : Int) : bodyC SE (C58 Γ) Λ2 J 58 [.d (.int .i64 p0), .d (.int .i64 p1)] [] [] =
  cond (decide (p0 ≥ 0)) (
   (some (.ret [.d (.bool (decide (p0 ≤ p1)))] [] []))) (
  (some (.ret [.d (.bool false)] [] []))) := by kernel_rfl
abbrev X58 : CFun := C58 (callG SE good)
theorem Cr58 : C58 (callG SE good) = bindC (callG SE good) := by unfold C58; rfl
theorem message_is_ok (p0 : Int) (p1 : Int) : Le (Option.map message_is_out (message_is p0 p1)) (callW SE 58 [.d (.int .i64 p0), .d (.int .i64 p1)] [] []) := by
  refine le_bodyC Cr58 rfl ?_
  refine Le.trans ?_ (le_of_eq (T58 _ _ _  p0 p1).symm)
  unfold message_is
  refine le_cond rfl (fun _ => ?_) (fun _ => ?_)
  · skip
    exact le_ret (by first | rfl | (simp only [EN, message_is_out]; done) | (simp only [EN, message_is_out]; rfl))
  · skip
    exact le_ret (by first | rfl | (simp only [EN, message_is_out]; done) | (simp only [EN, message_is_out]; rfl))
def C65 (Γ : Fun)  : CFun := bindC Γ
def R65_4 (C : CFun) (Λ2 J : Lam) (a0 : Str) (a1 : Int) : Res := lab SE C Λ2 J 65 0 [1, 1, 0, 1, 0] (stoOf [(0, .d (.str a0)), (3, .d (.int .i64 a1))] [] [] [] [])
def R65_3 (C : CFun) (Λ2 J : Lam) (a0 : Str) : Res := lab SE C Λ2 J 65 0 [1, 1, 0, 0] (stoOf [(0, .d (.str a0))] [] [] [] [])
theorem T65 (Γ : Fun)  (Λ2 J : Lam) (p0 : Str) : bodyC SE (C65 Γ) Λ2 J 65 [.d (.str p0)] [] [] =
  cond (decide ((List.length p0 : Int) < 1)) (
   (some (.ret [.d (.bool false)] [] []))) (
  cond (decide ((List.length p0 : Int) > 16)) (
   (some (.ret [.d (.bool false)] [] []))) (
  R65_3 (C65 Γ) Λ2 J p0)) := by kernel_rfl
theorem T65_4 (Γ : Fun)  (Λ2 J : Lam) (x0 : Str) (x3 : Int) : labU SE (C65 Γ) Λ2 J 65 0 [1, 1, 0, 1, 0] (stoOf [(0, .d (.str x0)), (3, .d (.int .i64 x3))] [] [] [] []) =
  cond (decide (x3 < (List.length x0 : Int))) (
   cond (decide (0 ≤ x3) && decide (x3 < (List.length x0 : Int))) (
    cond (decide ((UInt8.toNat (List.getD x0 (Int.toNat x3) 0) : Int) < 97)) (
     cond (decide ((UInt8.toNat (List.getD x0 (Int.toNat x3) 0) : Int) < 48)) (
      cond ((UInt8.toNat (List.getD x0 (Int.toNat x3) 0) : Int) != 45) (
       (some (.ret [.d (.bool false)] [] []))) (
      R65_4 (C65 Γ) Λ2 J x0 (IntKind.wrap .i64 (x3 + 1)))) (
     cond (decide ((UInt8.toNat (List.getD x0 (Int.toNat x3) 0) : Int) > 57)) (
      cond ((UInt8.toNat (List.getD x0 (Int.toNat x3) 0) : Int) != 45) (
       (some (.ret [.d (.bool false)] [] []))) (
      R65_4 (C65 Γ) Λ2 J x0 (IntKind.wrap .i64 (x3 + 1)))) (
     R65_4 (C65 Γ) Λ2 J x0 (IntKind.wrap .i64 (x3 + 1))))) (
    cond (decide ((UInt8.toNat (List.getD x0 (Int.toNat x3) 0) : Int) > 122)) (
     cond (decide ((UInt8.toNat (List.getD x0 (Int.toNat x3) 0) : Int) < 48)) (
      cond ((UInt8.toNat (List.getD x0 (Int.toNat x3) 0) : Int) != 45) (
       (some (.ret [.d (.bool false)] [] []))) (
      R65_4 (C65 Γ) Λ2 J x0 (IntKind.wrap .i64 (x3 + 1)))) (
     cond (decide ((UInt8.toNat (List.getD x0 (Int.toNat x3) 0) : Int) > 57)) (
      cond ((UInt8.toNat (List.getD x0 (Int.toNat x3) 0) : Int) != 45) (
       (some (.ret [.d (.bool false)] [] []))) (
      R65_4 (C65 Γ) Λ2 J x0 (IntKind.wrap .i64 (x3 + 1)))) (
     R65_4 (C65 Γ) Λ2 J x0 (IntKind.wrap .i64 (x3 + 1))))) (
    R65_4 (C65 Γ) Λ2 J x0 (IntKind.wrap .i64 (x3 + 1))))) none) (
  (some (.ret [.d (.bool true)] [] []))) := by kernel_rfl
theorem T65_3 (Γ : Fun)  (Λ2 J : Lam) (x0 : Str) : labU SE (C65 Γ) Λ2 J 65 0 [1, 1, 0, 0] (stoOf [(0, .d (.str x0))] [] [] [] []) =
  R65_4 (C65 Γ) Λ2 J x0 0 := by kernel_rfl
abbrev X65 : CFun := C65 (callG SE good)
theorem Cr65 : C65 (callG SE good) = bindC (callG SE good) := by unfold C65; rfl
noncomputable abbrev Q65_4 (a0 : Str) (a1 : Int) : Res := R65_4 X65 (lam2 SE (callG SE good) (SE.hl 65) (SE.hr 65)) (J0 SE X65) a0 a1
noncomputable abbrev Q65_3 (a0 : Str) : Res := R65_3 X65 (lam2 SE (callG SE good) (SE.hl 65) (SE.hr 65)) (J0 SE X65) a0
theorem message_key_l4_ok : ∀ (fu : Nat) (x0 : Str) (x3 : Int), Le (Option.map message_key_out (message_key_l4 fu x0 x3)) (Q65_4 x0 x3) := by
  intro fu
  induction fu with
  | zero => intros; exact le_none
  | succ fu ih =>
    intro x0 x3
    refine Le.trans ?_ (le_of_eq ((lab_realC Cr65).trans (T65_4 _ _ _  x0 x3)).symm)
    unfold message_key_l4
    refine le_cond rfl (fun _ => ?_) (fun _ => ?_)
    · skip
      refine le_cond rfl (fun _ => ?_) (fun _ => le_none)
      refine le_cond rfl (fun _ => ?_) (fun _ => ?_)
      · skip
        refine le_cond rfl (fun _ => ?_) (fun _ => ?_)
        · skip
          refine le_cond rfl (fun _ => ?_) (fun _ => ?_)
          · skip
            exact le_ret (by first | rfl | (simp only [EN, message_key_out]; done) | (simp only [EN, message_key_out]; rfl))
          · skip
            exact ih x0 (IntKind.wrap .i64 (x3 + 1))
        · skip
          refine le_cond rfl (fun _ => ?_) (fun _ => ?_)
          · skip
            refine le_cond rfl (fun _ => ?_) (fun _ => ?_)
            · skip
              exact le_ret (by first | rfl | (simp only [EN, message_key_out]; done) | (simp only [EN, message_key_out]; rfl))
            · skip
              exact ih x0 (IntKind.wrap .i64 (x3 + 1))
          · skip
            exact ih x0 (IntKind.wrap .i64 (x3 + 1))
      · skip
        refine le_cond rfl (fun _ => ?_) (fun _ => ?_)
        · skip
          refine le_cond rfl (fun _ => ?_) (fun _ => ?_)
          · skip
            refine le_cond rfl (fun _ => ?_) (fun _ => ?_)
            · skip
              exact le_ret (by first | rfl | (simp only [EN, message_key_out]; done) | (simp only [EN, message_key_out]; rfl))
            · skip
              exact ih x0 (IntKind.wrap .i64 (x3 + 1))
          · skip
            refine le_cond rfl (fun _ => ?_) (fun _ => ?_)
            · skip
              refine le_cond rfl (fun _ => ?_) (fun _ => ?_)
              · skip
                exact le_ret (by first | rfl | (simp only [EN, message_key_out]; done) | (simp only [EN, message_key_out]; rfl))
              · skip
                exact ih x0 (IntKind.wrap .i64 (x3 + 1))
            · skip
              exact ih x0 (IntKind.wrap .i64 (x3 + 1))
        · skip
          exact ih x0 (IntKind.wrap .i64 (x3 + 1))
    · skip
      exact le_ret (by first | rfl | (simp only [EN, message_key_out]; done) | (simp only [EN, message_key_out]; rfl))
theorem message_key_j3_ok (x0 : Str) : Le (Option.map message_key_out (message_key_j3 x0)) (Q65_3 x0) := by
  refine Le.trans ?_ (le_of_eq ((lab_realC Cr65).trans (T65_3 _ _ _  x0)).symm)
  unfold message_key_j3
  exact message_key_l4_ok fuel x0 0
theorem message_key_ok (p0 : Str) : Le (Option.map message_key_out (message_key p0)) (callW SE 65 [.d (.str p0)] [] []) := by
  refine le_bodyC Cr65 rfl ?_
  refine Le.trans ?_ (le_of_eq (T65 _ _ _  p0).symm)
  unfold message_key
  refine le_cond rfl (fun _ => ?_) (fun _ => ?_)
  · skip
    exact le_ret (by first | rfl | (simp only [EN, message_key_out]; done) | (simp only [EN, message_key_out]; rfl))
  · skip
    refine le_cond rfl (fun _ => ?_) (fun _ => ?_)
    · skip
      exact le_ret (by first | rfl | (simp only [EN, message_key_out]; done) | (simp only [EN, message_key_out]; rfl))
    · skip
      exact message_key_j3_ok p0
def C59 (Γ : Fun) (γ65 : Gm (Bool)) : CFun := updC (bindC Γ) 65 message_key_out γ65
def R59_4 (C : CFun) (Λ2 J : Lam) (a0 : (List (List D))) (a1 : (List (List D))) (a2 : Int) (a3 : Int) : Res := lab SE C Λ2 J 59 0 [1, 1, 0, 1, 0] (stoOf [(0, .d (.sl api_Prop.ks a0)), (8, .d (.sl api_Prop.ks a1)), (9, .d (.int .i64 a2)), (10, .d (.int .i64 a3))] [] [] [] [])
theorem T59 (Γ : Fun) (γ65 : Gm (Bool)) (Λ2 J : Lam) (p0 : (List api_Prop)) : bodyC SE (C59 Γ γ65) Λ2 J 59 [.d (.sl api_Prop.ks (List.map api_Prop.enc p0))] [] [] =
  cond (decide ((List.length (List.map api_Prop.enc p0) : Int) > 8)) (
   (some (.ret [.d (.int .i64 5)] [] []))) (
  R59_4 (C59 Γ γ65) Λ2 J (List.map api_Prop.enc p0) (List.map api_Prop.enc p0) (List.length (List.map api_Prop.enc p0) : Int) 0) := by kernel_rfl
theorem T59_4 (Γ : Fun) (γ65 : Gm (Bool)) (Λ2 J : Lam) (x0 : (List api_Prop)) (x8 : (List api_Prop)) (x9 : Int) (x10 : Int) : labU SE (C59 Γ γ65) Λ2 J 59 0 [1, 1, 0, 1, 0] (stoOf [(0, .d (.sl api_Prop.ks (List.map api_Prop.enc x0))), (8, .d (.sl api_Prop.ks (List.map api_Prop.enc x8))), (9, .d (.int .i64 x9)), (10, .d (.int .i64 x10))] [] [] [] []) =
  cond (decide (x10 < x9)) (
   cond (decide (0 ≤ x10) && decide (x10 < (List.length (List.map api_Prop.enc x8) : Int))) (
    γ65 [.d (.str (dStr (cellAt (elemAt (List.map api_Prop.enc x8) (Int.toNat x10)) 0)))] [] [] fun r0 =>
    cond (!r0) (
     (some (.ret [.d (.int .i64 16)] [] []))) (
    cond (decide ((List.length (dStr (cellAt (elemAt (List.map api_Prop.enc x8) (Int.toNat x10)) 1)) : Int) > 160)) (
     (some (.ret [.d (.int .i64 5)] [] []))) (
    cond (decide (x10 > 0)) (
     cond (decide (0 ≤ (IntKind.wrap .i64 (x10 - 1))) && decide ((IntKind.wrap .i64 (x10 - 1)) < (List.length (List.map api_Prop.enc x0) : Int))) (
      cond (Op.bytesLess (dStr (cellAt (elemAt (List.map api_Prop.enc x8) (Int.toNat x10)) 0)) (dStr (cellAt (elemAt (List.map api_Prop.enc x0) (Int.toNat (IntKind.wrap .i64 (x10 - 1)))) 0)) || (dStr (cellAt (elemAt (List.map api_Prop.enc x8) (Int.toNat x10)) 0)) == (dStr (cellAt (elemAt (List.map api_Prop.enc x0) (Int.toNat (IntKind.wrap .i64 (x10 - 1)))) 0))) (
       (some (.ret [.d (.int .i64 16)] [] []))) (
      R59_4 (C59 Γ γ65) Λ2 J (List.map api_Prop.enc x0) (List.map api_Prop.enc x8) x9 (IntKind.wrap .i64 (x10 + 1)))) none) (
    R59_4 (C59 Γ γ65) Λ2 J (List.map api_Prop.enc x0) (List.map api_Prop.enc x8) x9 (IntKind.wrap .i64 (x10 + 1)))))) none) (
  (some (.ret [.d (.int .i64 0)] [] []))) := by kernel_rfl
abbrev X59 : CFun := C59 (callG SE good) (callT SE good 65 message_key_out)
theorem Cr59 : C59 (callG SE good) (callT SE good 65 message_key_out) = bindC (callG SE good) := by unfold C59; rw [updC_real (fun _ h => h)]
noncomputable abbrev Q59_4 (a0 : (List (List D))) (a1 : (List (List D))) (a2 : Int) (a3 : Int) : Res := R59_4 X59 (lam2 SE (callG SE good) (SE.hl 59) (SE.hr 59)) (J0 SE X59) a0 a1 a2 a3
theorem message_Props_l4_ok : ∀ (fu : Nat) (x0 : (List api_Prop)) (x8 : (List api_Prop)) (x9 : Int) (x10 : Int), Le (Option.map message_Props_out (message_Props_l4 fu x0 x8 x9 x10)) (Q59_4 (List.map api_Prop.enc x0) (List.map api_Prop.enc x8) x9 x10) := by
  intro fu
  induction fu with
  | zero => intros; exact le_none
  | succ fu ih =>
    intro x0 x8 x9 x10
    refine Le.trans ?_ (le_of_eq ((lab_realC Cr59).trans (T59_4 _ _ _ _  x0 x8 x9 x10)).symm)
    unfold message_Props_l4
    refine le_cond rfl (fun _ => ?_) (fun _ => ?_)
    · skip
      refine le_cond (by simp only [EN]) (fun _ => ?_) (fun _ => le_none)
      refine le_call (good := good) (fun y => ⟨y, rfl⟩) message_key_inj (by first | (simp only [EN]; exact message_key_ok ((List.getD x8 (Int.toNat x10) default).Key)) | exact message_key_ok ((List.getD x8 (Int.toNat x10) default).Key)) (fun r0 _ => ?_)
      refine le_cond rfl (fun _ => ?_) (fun _ => ?_)
      · skip
        exact le_ret (by first | rfl | (simp only [EN, message_Props_out]; done) | (simp only [EN, message_Props_out]; rfl))
      · skip
        refine le_cond (by simp only [EN]) (fun _ => ?_) (fun _ => ?_)
        · skip
          exact le_ret (by first | rfl | (simp only [EN, message_Props_out]; done) | (simp only [EN, message_Props_out]; rfl))
        · skip
          refine le_cond rfl (fun _ => ?_) (fun _ => ?_)
          · skip
            refine le_cond (by simp only [EN]) (fun _ => ?_) (fun _ => le_none)
            refine le_cond (by simp only [EN]) (fun _ => ?_) (fun _ => ?_)
            · skip
              exact le_ret (by first | rfl | (simp only [EN, message_Props_out]; done) | (simp only [EN, message_Props_out]; rfl))
            · skip
              exact ih x0 x8 x9 (IntKind.wrap .i64 (x10 + 1))
          · skip
            exact ih x0 x8 x9 (IntKind.wrap .i64 (x10 + 1))
    · skip
      exact le_ret (by first | rfl | (simp only [EN, message_Props_out]; done) | (simp only [EN, message_Props_out]; rfl))
theorem message_Props_ok (p0 : (List api_Prop)) : Le (Option.map message_Props_out (message_Props p0)) (callW SE 59 [.d (.sl api_Prop.ks (List.map api_Prop.enc p0))] [] []) := by
  refine le_bodyC Cr59 rfl ?_
  refine Le.trans ?_ (le_of_eq (T59 _ _ _ _  p0).symm)
  unfold message_Props
  refine le_cond (by simp only [EN]) (fun _ => ?_) (fun _ => ?_)
  · skip
    exact le_ret (by first | rfl | (simp only [EN, message_Props_out]; done) | (simp only [EN, message_Props_out]; rfl))
  · skip
    first | (simp only [EN]; exact message_Props_l4_ok fuel p0 p0 (List.length p0 : Int) 0) | exact message_Props_l4_ok fuel p0 p0 (List.length p0 : Int) 0
def C52 (Γ : Fun) (γ57 : Gm (Bool)) (γ58 : Gm (Bool)) (γ51 : Gm (Bool)) (γ59 : Gm (Int)) : CFun := updC (updC (updC (updC (bindC Γ) 57 topic_Valid_out γ57) 58 message_is_out γ58) 51 topic_Name_out γ51) 59 message_Props_out γ59
theorem T52 (Γ : Fun) (γ57 : Gm (Bool)) (γ58 : Gm (Bool)) (γ51 : Gm (Bool)) (γ59 : Gm (Int)) (Λ2 J : Lam) (p0 : api_Message) : bodyC SE (C52 Γ γ57 γ58 γ51 γ59) Λ2 J 52 [api_Message.av p0] [] [] =
  γ57 [.d (.str p0.Topic)] [] [] fun r0 =>
  cond (!r0) (
   (some (.ret [.d (.int .i64 12)] [] []))) (
  cond (decide ((List.length p0.Payload : Int) > 256)) (
   (some (.ret [.d (.int .i64 5)] [] []))) (
  γ58 [.d (.int .i64 p0.Level), .d (.int .i64 2)] [] [] fun r1 =>
  cond (!r1) (
   (some (.ret [.d (.int .i64 14)] [] []))) (
  γ58 [.d (.int .i64 p0.Priority), .d (.int .i64 9)] [] [] fun r2 =>
  cond (!r2) (
   (some (.ret [.d (.int .i64 1)] [] []))) (
  γ58 [.d (.int .i64 p0.Expires), .d (.int .i64 1099511627776)] [] [] fun r3 =>
  cond (!r3) (
   (some (.ret [.d (.int .i64 1)] [] []))) (
  cond (!(p0.From == ([] : Str))) (
   γ51 [.d (.str p0.From)] [] [] fun r4 =>
   cond (!r4) (
    (some (.ret [.d (.int .i64 11)] [] []))) (
   γ58 [.d (.int .i64 p0.Seq), .d (.int .i64 1099511627776)] [] [] fun r5 =>
   cond (!r5) (
    (some (.ret [.d (.int .i64 1)] [] []))) (
   γ59 [.d (.sl api_Prop.ks (List.map api_Prop.enc p0.Props))] [] [] fun r6 =>
   (some (.ret [.d (.int .i64 r6)] [] []))))) (
  γ58 [.d (.int .i64 p0.Seq), .d (.int .i64 1099511627776)] [] [] fun r7 =>
  cond (!r7) (
   (some (.ret [.d (.int .i64 1)] [] []))) (
  γ59 [.d (.sl api_Prop.ks (List.map api_Prop.enc p0.Props))] [] [] fun r8 =>
  (some (.ret [.d (.int .i64 r8)] [] []))))))))) := by kernel_rfl
abbrev X52 : CFun := C52 (callG SE good) (callT SE good 57 topic_Valid_out) (callT SE good 58 message_is_out) (callT SE good 51 topic_Name_out) (callT SE good 59 message_Props_out)
theorem Cr52 : C52 (callG SE good) (callT SE good 57 topic_Valid_out) (callT SE good 58 message_is_out) (callT SE good 51 topic_Name_out) (callT SE good 59 message_Props_out) = bindC (callG SE good) := by unfold C52; rw [updC_real (fun _ h => h), updC_real (fun _ h => h), updC_real (fun _ h => h), updC_real (fun _ h => h)]
theorem message_Check_ok (p0 : api_Message) : Le (Option.map message_Check_out (message_Check p0)) (callW SE 52 [api_Message.av p0] [] []) := by
  refine le_bodyC Cr52 rfl ?_
  refine Le.trans ?_ (le_of_eq (T52 _ _ _ _ _ _ _  p0).symm)
  unfold message_Check
  refine le_call (good := good) (fun y => ⟨y, rfl⟩) topic_Valid_inj (topic_Valid_ok p0.Topic) (fun r0 _ => ?_)
  refine le_cond rfl (fun _ => ?_) (fun _ => ?_)
  · skip
    exact le_ret (by first | rfl | (simp only [EN, message_Check_out]; done) | (simp only [EN, message_Check_out]; rfl))
  · skip
    refine le_cond rfl (fun _ => ?_) (fun _ => ?_)
    · skip
      exact le_ret (by first | rfl | (simp only [EN, message_Check_out]; done) | (simp only [EN, message_Check_out]; rfl))
    · skip
      refine le_call (good := good) (fun y => ⟨y, rfl⟩) message_is_inj (message_is_ok p0.Level 2) (fun r1 _ => ?_)
      refine le_cond rfl (fun _ => ?_) (fun _ => ?_)
      · skip
        exact le_ret (by first | rfl | (simp only [EN, message_Check_out]; done) | (simp only [EN, message_Check_out]; rfl))
      · skip
        refine le_call (good := good) (fun y => ⟨y, rfl⟩) message_is_inj (message_is_ok p0.Priority 9) (fun r2 _ => ?_)
        refine le_cond rfl (fun _ => ?_) (fun _ => ?_)
        · skip
          exact le_ret (by first | rfl | (simp only [EN, message_Check_out]; done) | (simp only [EN, message_Check_out]; rfl))
        · skip
          refine le_call (good := good) (fun y => ⟨y, rfl⟩) message_is_inj (message_is_ok p0.Expires 1099511627776) (fun r3 _ => ?_)
          refine le_cond rfl (fun _ => ?_) (fun _ => ?_)
          · skip
            exact le_ret (by first | rfl | (simp only [EN, message_Check_out]; done) | (simp only [EN, message_Check_out]; rfl))
          · skip
            refine le_cond rfl (fun _ => ?_) (fun _ => ?_)
            · skip
              refine le_call (good := good) (fun y => ⟨y, rfl⟩) topic_Name_inj (topic_Name_ok p0.From) (fun r4 _ => ?_)
              refine le_cond rfl (fun _ => ?_) (fun _ => ?_)
              · skip
                exact le_ret (by first | rfl | (simp only [EN, message_Check_out]; done) | (simp only [EN, message_Check_out]; rfl))
              · skip
                refine le_call (good := good) (fun y => ⟨y, rfl⟩) message_is_inj (message_is_ok p0.Seq 1099511627776) (fun r5 _ => ?_)
                refine le_cond rfl (fun _ => ?_) (fun _ => ?_)
                · skip
                  exact le_ret (by first | rfl | (simp only [EN, message_Check_out]; done) | (simp only [EN, message_Check_out]; rfl))
                · skip
                  refine le_call (good := good) (fun y => ⟨y, rfl⟩) message_Props_inj (message_Props_ok p0.Props) (fun r6 _ => ?_)
                  exact le_ret (by first | rfl | (simp only [EN, message_Check_out]; done) | (simp only [EN, message_Check_out]; rfl))
            · skip
              refine le_call (good := good) (fun y => ⟨y, rfl⟩) message_is_inj (message_is_ok p0.Seq 1099511627776) (fun r7 _ => ?_)
              refine le_cond rfl (fun _ => ?_) (fun _ => ?_)
              · skip
                exact le_ret (by first | rfl | (simp only [EN, message_Check_out]; done) | (simp only [EN, message_Check_out]; rfl))
              · skip
                refine le_call (good := good) (fun y => ⟨y, rfl⟩) message_Props_inj (message_Props_ok p0.Props) (fun r8 _ => ?_)
                exact le_ret (by first | rfl | (simp only [EN, message_Check_out]; done) | (simp only [EN, message_Check_out]; rfl))
def C37 (Γ : Fun) (γ51 : Gm (Bool)) (γ34 : Gm (Bool)) (γ47 : Gm (Bool)) (γ52 : Gm (Int)) : CFun := updC (updC (updC (updC (bindC Γ) 51 topic_Name_out γ51) 34 packet_is_out γ34) 47 message_Same_out γ47) 52 message_Check_out γ52
theorem T37 (Γ : Fun) (γ51 : Gm (Bool)) (γ34 : Gm (Bool)) (γ47 : Gm (Bool)) (γ52 : Gm (Int)) (Λ2 J : Lam) (p0 : api_Packet) : bodyC SE (C37 Γ γ51 γ34 γ47 γ52) Λ2 J 37 [api_Packet.av p0] [] [] =
  γ51 [.d (.str p0.Client)] [] [] fun r0 =>
  cond (!r0) (
   (some (.ret [.d (.int .i64 11)] [] []))) (
  cond (!(p0.User == ([] : Str))) (
   γ51 [.d (.str p0.User)] [] [] fun r1 =>
   cond (!r1) (
    (some (.ret [.d (.int .i64 11)] [] []))) (
   γ34 [.d (.int .i64 p0.Keep), .d (.int .i64 0), .d (.int .i64 1099511627776)] [] [] fun r2 =>
   cond (!r2) (
    (some (.ret [.d (.int .i64 1)] [] []))) (
   γ34 [.d (.int .i64 p0.Expiry), .d (.int .i64 0), .d (.int .i64 1099511627776)] [] [] fun r3 =>
   cond (!r3) (
    (some (.ret [.d (.int .i64 1)] [] []))) (
   γ34 [.d (.int .i64 p0.Window), .d (.int .i64 1), .d (.int .i64 32)] [] [] fun r4 =>
   cond (!r4) (
    (some (.ret [.d (.int .i64 1)] [] []))) (
   cond (!p0.Will.Set) (
    cond (p0.Will.Delay != 0) (
     (some (.ret [.d (.int .i64 28)] [] []))) (
    γ47 [api_Message.av p0.Will.Message, .agg [.d (.str ([] : Str)), .d (.str ([] : Str)), .d (.int .i64 0), .d (.bool false), .d (.int .i64 0), .d (.int .i64 0), .d (.str ([] : Str)), .d (.int .i64 0), .d (.sl api_Prop.ks (List.map api_Prop.enc []))]] [] [] fun r5 =>
    cond (!r5) (
     (some (.ret [.d (.int .i64 28)] [] []))) (
    cond (!p0.Will.Set) (
     (some (.ret [.d (.int .i64 0)] [] []))) (
    γ34 [.d (.int .i64 p0.Will.Delay), .d (.int .i64 0), .d (.int .i64 1099511627776)] [] [] fun r6 =>
    cond (!r6) (
     (some (.ret [.d (.int .i64 1)] [] []))) (
    γ52 [api_Message.av p0.Will.Message] [] [] fun r7 =>
    (some (.ret [.d (.int .i64 r7)] [] []))))))) (
   cond (!p0.Will.Set) (
    (some (.ret [.d (.int .i64 0)] [] []))) (
   γ34 [.d (.int .i64 p0.Will.Delay), .d (.int .i64 0), .d (.int .i64 1099511627776)] [] [] fun r8 =>
   cond (!r8) (
    (some (.ret [.d (.int .i64 1)] [] []))) (
   γ52 [api_Message.av p0.Will.Message] [] [] fun r9 =>
   (some (.ret [.d (.int .i64 r9)] [] [])))))))))) (
  γ34 [.d (.int .i64 p0.Keep), .d (.int .i64 0), .d (.int .i64 1099511627776)] [] [] fun r10 =>
  cond (!r10) (
   (some (.ret [.d (.int .i64 1)] [] []))) (
  γ34 [.d (.int .i64 p0.Expiry), .d (.int .i64 0), .d (.int .i64 1099511627776)] [] [] fun r11 =>
  cond (!r11) (
   (some (.ret [.d (.int .i64 1)] [] []))) (
  γ34 [.d (.int .i64 p0.Window), .d (.int .i64 1), .d (.int .i64 32)] [] [] fun r12 =>
  cond (!r12) (
   (some (.ret [.d (.int .i64 1)] [] []))) (
  cond (!p0.Will.Set) (
   cond (p0.Will.Delay != 0) (
    (some (.ret [.d (.int .i64 28)] [] []))) (
   γ47 [api_Message.av p0.Will.Message, .agg [.d (.str ([] : Str)), .d (.str ([] : Str)), .d (.int .i64 0), .d (.bool false), .d (.int .i64 0), .d (.int .i64 0), .d (.str ([] : Str)), .d (.int .i64 0), .d (.sl api_Prop.ks (List.map api_Prop.enc []))]] [] [] fun r13 =>
   cond (!r13) (
    (some (.ret [.d (.int .i64 28)] [] []))) (
   cond (!p0.Will.Set) (
    (some (.ret [.d (.int .i64 0)] [] []))) (
   γ34 [.d (.int .i64 p0.Will.Delay), .d (.int .i64 0), .d (.int .i64 1099511627776)] [] [] fun r14 =>
   cond (!r14) (
    (some (.ret [.d (.int .i64 1)] [] []))) (
   γ52 [api_Message.av p0.Will.Message] [] [] fun r15 =>
   (some (.ret [.d (.int .i64 r15)] [] []))))))) (
  cond (!p0.Will.Set) (
   (some (.ret [.d (.int .i64 0)] [] []))) (
  γ34 [.d (.int .i64 p0.Will.Delay), .d (.int .i64 0), .d (.int .i64 1099511627776)] [] [] fun r16 =>
  cond (!r16) (
   (some (.ret [.d (.int .i64 1)] [] []))) (
  γ52 [api_Message.av p0.Will.Message] [] [] fun r17 =>
  (some (.ret [.d (.int .i64 r17)] [] [])))))))))) := by kernel_rfl
abbrev X37 : CFun := C37 (callG SE good) (callT SE good 51 topic_Name_out) (callT SE good 34 packet_is_out) (callT SE good 47 message_Same_out) (callT SE good 52 message_Check_out)
theorem Cr37 : C37 (callG SE good) (callT SE good 51 topic_Name_out) (callT SE good 34 packet_is_out) (callT SE good 47 message_Same_out) (callT SE good 52 message_Check_out) = bindC (callG SE good) := by unfold C37; rw [updC_real (fun _ h => h), updC_real (fun _ h => h), updC_real (fun _ h => h), updC_real (fun _ h => h)]
theorem packet_connect_ok (p0 : api_Packet) : Le (Option.map packet_connect_out (packet_connect p0)) (callW SE 37 [api_Packet.av p0] [] []) := by
  refine le_bodyC Cr37 rfl ?_
  refine Le.trans ?_ (le_of_eq (T37 _ _ _ _ _ _ _  p0).symm)
  unfold packet_connect
  refine le_call (good := good) (fun y => ⟨y, rfl⟩) topic_Name_inj (topic_Name_ok p0.Client) (fun r0 _ => ?_)
  refine le_cond rfl (fun _ => ?_) (fun _ => ?_)
  · skip
    exact le_ret (by first | rfl | (simp only [EN, packet_connect_out]; done) | (simp only [EN, packet_connect_out]; rfl))
  · skip
    refine le_cond rfl (fun _ => ?_) (fun _ => ?_)
    · skip
      refine le_call (good := good) (fun y => ⟨y, rfl⟩) topic_Name_inj (topic_Name_ok p0.User) (fun r1 _ => ?_)
      refine le_cond rfl (fun _ => ?_) (fun _ => ?_)
      · skip
        exact le_ret (by first | rfl | (simp only [EN, packet_connect_out]; done) | (simp only [EN, packet_connect_out]; rfl))
      · skip
        refine le_call (good := good) (fun y => ⟨y, rfl⟩) packet_is_inj (packet_is_ok p0.Keep 0 1099511627776) (fun r2 _ => ?_)
        refine le_cond rfl (fun _ => ?_) (fun _ => ?_)
        · skip
          exact le_ret (by first | rfl | (simp only [EN, packet_connect_out]; done) | (simp only [EN, packet_connect_out]; rfl))
        · skip
          refine le_call (good := good) (fun y => ⟨y, rfl⟩) packet_is_inj (packet_is_ok p0.Expiry 0 1099511627776) (fun r3 _ => ?_)
          refine le_cond rfl (fun _ => ?_) (fun _ => ?_)
          · skip
            exact le_ret (by first | rfl | (simp only [EN, packet_connect_out]; done) | (simp only [EN, packet_connect_out]; rfl))
          · skip
            refine le_call (good := good) (fun y => ⟨y, rfl⟩) packet_is_inj (packet_is_ok p0.Window 1 32) (fun r4 _ => ?_)
            refine le_cond rfl (fun _ => ?_) (fun _ => ?_)
            · skip
              exact le_ret (by first | rfl | (simp only [EN, packet_connect_out]; done) | (simp only [EN, packet_connect_out]; rfl))
            · skip
              refine le_cond rfl (fun _ => ?_) (fun _ => ?_)
              · skip
                refine le_cond rfl (fun _ => ?_) (fun _ => ?_)
                · skip
                  exact le_ret (by first | rfl | (simp only [EN, packet_connect_out]; done) | (simp only [EN, packet_connect_out]; rfl))
                · skip
                  refine le_call (good := good) (fun y => ⟨y, rfl⟩) message_Same_inj (by first | (simp only [EN]; exact message_Same_ok p0.Will.Message ((api_Message.mk ([] : Str) ([] : Str) 0 false 0 0 ([] : Str) 0 ([] : List api_Prop)))) | exact message_Same_ok p0.Will.Message ((api_Message.mk ([] : Str) ([] : Str) 0 false 0 0 ([] : Str) 0 ([] : List api_Prop)))) (fun r5 _ => ?_)
                  refine le_cond rfl (fun _ => ?_) (fun _ => ?_)
                  · skip
                    exact le_ret (by first | rfl | (simp only [EN, packet_connect_out]; done) | (simp only [EN, packet_connect_out]; rfl))
                  · skip
                    refine le_cond rfl (fun _ => ?_) (fun _ => ?_)
                    · skip
                      exact le_ret (by first | rfl | (simp only [EN, packet_connect_out]; done) | (simp only [EN, packet_connect_out]; rfl))
                    · skip
                      refine le_call (good := good) (fun y => ⟨y, rfl⟩) packet_is_inj (packet_is_ok p0.Will.Delay 0 1099511627776) (fun r6 _ => ?_)
                      refine le_cond rfl (fun _ => ?_) (fun _ => ?_)
                      · skip
                        exact le_ret (by first | rfl | (simp only [EN, packet_connect_out]; done) | (simp only [EN, packet_connect_out]; rfl))
                      · skip
                        refine le_call (good := good) (fun y => ⟨y, rfl⟩) message_Check_inj (message_Check_ok p0.Will.Message) (fun r7 _ => ?_)
                        exact le_ret (by first | rfl | (simp only [EN, packet_connect_out]; done) | (simp only [EN, packet_connect_out]; rfl))
              · skip
                refine le_cond rfl (fun _ => ?_) (fun _ => ?_)
                · skip
                  exact le_ret (by first | rfl | (simp only [EN, packet_connect_out]; done) | (simp only [EN, packet_connect_out]; rfl))
                · skip
                  refine le_call (good := good) (fun y => ⟨y, rfl⟩) packet_is_inj (packet_is_ok p0.Will.Delay 0 1099511627776) (fun r8 _ => ?_)
                  refine le_cond rfl (fun _ => ?_) (fun _ => ?_)
                  · skip
                    exact le_ret (by first | rfl | (simp only [EN, packet_connect_out]; done) | (simp only [EN, packet_connect_out]; rfl))
                  · skip
                    refine le_call (good := good) (fun y => ⟨y, rfl⟩) message_Check_inj (message_Check_ok p0.Will.Message) (fun r9 _ => ?_)
                    exact le_ret (by first | rfl | (simp only [EN, packet_connect_out]; done) | (simp only [EN, packet_connect_out]; rfl))
    · skip
      refine le_call (good := good) (fun y => ⟨y, rfl⟩) packet_is_inj (packet_is_ok p0.Keep 0 1099511627776) (fun r10 _ => ?_)
      refine le_cond rfl (fun _ => ?_) (fun _ => ?_)
      · skip
        exact le_ret (by first | rfl | (simp only [EN, packet_connect_out]; done) | (simp only [EN, packet_connect_out]; rfl))
      · skip
        refine le_call (good := good) (fun y => ⟨y, rfl⟩) packet_is_inj (packet_is_ok p0.Expiry 0 1099511627776) (fun r11 _ => ?_)
        refine le_cond rfl (fun _ => ?_) (fun _ => ?_)
        · skip
          exact le_ret (by first | rfl | (simp only [EN, packet_connect_out]; done) | (simp only [EN, packet_connect_out]; rfl))
        · skip
          refine le_call (good := good) (fun y => ⟨y, rfl⟩) packet_is_inj (packet_is_ok p0.Window 1 32) (fun r12 _ => ?_)
          refine le_cond rfl (fun _ => ?_) (fun _ => ?_)
          · skip
            exact le_ret (by first | rfl | (simp only [EN, packet_connect_out]; done) | (simp only [EN, packet_connect_out]; rfl))
          · skip
            refine le_cond rfl (fun _ => ?_) (fun _ => ?_)
            · skip
              refine le_cond rfl (fun _ => ?_) (fun _ => ?_)
              · skip
                exact le_ret (by first | rfl | (simp only [EN, packet_connect_out]; done) | (simp only [EN, packet_connect_out]; rfl))
              · skip
                refine le_call (good := good) (fun y => ⟨y, rfl⟩) message_Same_inj (by first | (simp only [EN]; exact message_Same_ok p0.Will.Message ((api_Message.mk ([] : Str) ([] : Str) 0 false 0 0 ([] : Str) 0 ([] : List api_Prop)))) | exact message_Same_ok p0.Will.Message ((api_Message.mk ([] : Str) ([] : Str) 0 false 0 0 ([] : Str) 0 ([] : List api_Prop)))) (fun r13 _ => ?_)
                refine le_cond rfl (fun _ => ?_) (fun _ => ?_)
                · skip
                  exact le_ret (by first | rfl | (simp only [EN, packet_connect_out]; done) | (simp only [EN, packet_connect_out]; rfl))
                · skip
                  refine le_cond rfl (fun _ => ?_) (fun _ => ?_)
                  · skip
                    exact le_ret (by first | rfl | (simp only [EN, packet_connect_out]; done) | (simp only [EN, packet_connect_out]; rfl))
                  · skip
                    refine le_call (good := good) (fun y => ⟨y, rfl⟩) packet_is_inj (packet_is_ok p0.Will.Delay 0 1099511627776) (fun r14 _ => ?_)
                    refine le_cond rfl (fun _ => ?_) (fun _ => ?_)
                    · skip
                      exact le_ret (by first | rfl | (simp only [EN, packet_connect_out]; done) | (simp only [EN, packet_connect_out]; rfl))
                    · skip
                      refine le_call (good := good) (fun y => ⟨y, rfl⟩) message_Check_inj (message_Check_ok p0.Will.Message) (fun r15 _ => ?_)
                      exact le_ret (by first | rfl | (simp only [EN, packet_connect_out]; done) | (simp only [EN, packet_connect_out]; rfl))
            · skip
              refine le_cond rfl (fun _ => ?_) (fun _ => ?_)
              · skip
                exact le_ret (by first | rfl | (simp only [EN, packet_connect_out]; done) | (simp only [EN, packet_connect_out]; rfl))
              · skip
                refine le_call (good := good) (fun y => ⟨y, rfl⟩) packet_is_inj (packet_is_ok p0.Will.Delay 0 1099511627776) (fun r16 _ => ?_)
                refine le_cond rfl (fun _ => ?_) (fun _ => ?_)
                · skip
                  exact le_ret (by first | rfl | (simp only [EN, packet_connect_out]; done) | (simp only [EN, packet_connect_out]; rfl))
                · skip
                  refine le_call (good := good) (fun y => ⟨y, rfl⟩) message_Check_inj (message_Check_ok p0.Will.Message) (fun r17 _ => ?_)
                  exact le_ret (by first | rfl | (simp only [EN, packet_connect_out]; done) | (simp only [EN, packet_connect_out]; rfl))
def C38 (Γ : Fun) (γ34 : Gm (Bool)) : CFun := updC (bindC Γ) 34 packet_is_out γ34
theorem T38 (Γ : Fun) (γ34 : Gm (Bool)) (Λ2 J : Lam) (p0 : Int) : bodyC SE (C38 Γ γ34) Λ2 J 38 [.d (.int .i64 p0)] [] [] =
  γ34 [.d (.int .i64 p0), .d (.int .i64 0), .d (.int .i64 29)] [] [] fun r0 =>
  (some (.ret [.d (.bool r0)] [] [])) := by kernel_rfl
abbrev X38 : CFun := C38 (callG SE good) (callT SE good 34 packet_is_out)
theorem Cr38 : C38 (callG SE good) (callT SE good 34 packet_is_out) = bindC (callG SE good) := by unfold C38; rw [updC_real (fun _ h => h)]
theorem packet_code_ok (p0 : Int) : Le (Option.map packet_code_out (packet_code p0)) (callW SE 38 [.d (.int .i64 p0)] [] []) := by
  refine le_bodyC Cr38 rfl ?_
  refine Le.trans ?_ (le_of_eq (T38 _ _ _ _  p0).symm)
  unfold packet_code
  refine le_call (good := good) (fun y => ⟨y, rfl⟩) packet_is_inj (packet_is_ok p0 0 29) (fun r0 _ => ?_)
  exact le_ret (by first | rfl | (simp only [EN, packet_code_out]; done) | (simp only [EN, packet_code_out]; rfl))
def C40 (Γ : Fun) (γ34 : Gm (Bool)) : CFun := updC (bindC Γ) 34 packet_is_out γ34
theorem T40 (Γ : Fun) (γ34 : Gm (Bool)) (Λ2 J : Lam) (p0 : Int) : bodyC SE (C40 Γ γ34) Λ2 J 40 [.d (.int .i64 p0)] [] [] =
  γ34 [.d (.int .i64 p0), .d (.int .i64 1), .d (.int .i64 65535)] [] [] fun r0 =>
  cond (!r0) (
   (some (.ret [.d (.int .i64 15)] [] []))) (
  (some (.ret [.d (.int .i64 0)] [] []))) := by kernel_rfl
abbrev X40 : CFun := C40 (callG SE good) (callT SE good 34 packet_is_out)
theorem Cr40 : C40 (callG SE good) (callT SE good 34 packet_is_out) = bindC (callG SE good) := by unfold C40; rw [updC_real (fun _ h => h)]
theorem packet_ident_ok (p0 : Int) : Le (Option.map packet_ident_out (packet_ident p0)) (callW SE 40 [.d (.int .i64 p0)] [] []) := by
  refine le_bodyC Cr40 rfl ?_
  refine Le.trans ?_ (le_of_eq (T40 _ _ _ _  p0).symm)
  unfold packet_ident
  refine le_call (good := good) (fun y => ⟨y, rfl⟩) packet_is_inj (packet_is_ok p0 1 65535) (fun r0 _ => ?_)
  refine le_cond rfl (fun _ => ?_) (fun _ => ?_)
  · skip
    exact le_ret (by first | rfl | (simp only [EN, packet_ident_out]; done) | (simp only [EN, packet_ident_out]; rfl))
  · skip
    exact le_ret (by first | rfl | (simp only [EN, packet_ident_out]; done) | (simp only [EN, packet_ident_out]; rfl))
def C39 (Γ : Fun) (γ52 : Gm (Int)) (γ40 : Gm (Int)) : CFun := updC (updC (bindC Γ) 52 message_Check_out γ52) 40 packet_ident_out γ40
theorem T39 (Γ : Fun) (γ52 : Gm (Int)) (γ40 : Gm (Int)) (Λ2 J : Lam) (p0 : api_Packet) : bodyC SE (C39 Γ γ52 γ40) Λ2 J 39 [api_Packet.av p0] [] [] =
  γ52 [api_Message.av p0.Message] [] [] fun r0 =>
  cond (r0 != 0) (
   (some (.ret [.d (.int .i64 r0)] [] []))) (
  cond (p0.Message.Level != 0) (
   γ40 [.d (.int .i64 p0.ID)] [] [] fun r1 =>
   (some (.ret [.d (.int .i64 r1)] [] []))) (
  cond (p0.ID != 0) (
   (some (.ret [.d (.int .i64 15)] [] []))) (
  cond p0.Dup (
   (some (.ret [.d (.int .i64 28)] [] []))) (
  (some (.ret [.d (.int .i64 0)] [] [])))))) := by kernel_rfl
abbrev X39 : CFun := C39 (callG SE good) (callT SE good 52 message_Check_out) (callT SE good 40 packet_ident_out)
theorem Cr39 : C39 (callG SE good) (callT SE good 52 message_Check_out) (callT SE good 40 packet_ident_out) = bindC (callG SE good) := by unfold C39; rw [updC_real (fun _ h => h), updC_real (fun _ h => h)]
theorem packet_publish_ok (p0 : api_Packet) : Le (Option.map packet_publish_out (packet_publish p0)) (callW SE 39 [api_Packet.av p0] [] []) := by
  refine le_bodyC Cr39 rfl ?_
  refine Le.trans ?_ (le_of_eq (T39 _ _ _ _ _  p0).symm)
  unfold packet_publish
  refine le_call (good := good) (fun y => ⟨y, rfl⟩) message_Check_inj (message_Check_ok p0.Message) (fun r0 _ => ?_)
  refine le_cond rfl (fun _ => ?_) (fun _ => ?_)
  · skip
    exact le_ret (by first | rfl | (simp only [EN, packet_publish_out]; done) | (simp only [EN, packet_publish_out]; rfl))
  · skip
    refine le_cond rfl (fun _ => ?_) (fun _ => ?_)
    · skip
      refine le_call (good := good) (fun y => ⟨y, rfl⟩) packet_ident_inj (packet_ident_ok p0.ID) (fun r1 _ => ?_)
      exact le_ret (by first | rfl | (simp only [EN, packet_publish_out]; done) | (simp only [EN, packet_publish_out]; rfl))
    · skip
      refine le_cond rfl (fun _ => ?_) (fun _ => ?_)
      · skip
        exact le_ret (by first | rfl | (simp only [EN, packet_publish_out]; done) | (simp only [EN, packet_publish_out]; rfl))
      · skip
        refine le_cond rfl (fun _ => ?_) (fun _ => ?_)
        · skip
          exact le_ret (by first | rfl | (simp only [EN, packet_publish_out]; done) | (simp only [EN, packet_publish_out]; rfl))
        · skip
          exact le_ret (by first | rfl | (simp only [EN, packet_publish_out]; done) | (simp only [EN, packet_publish_out]; rfl))
def C53 (Γ : Fun) (γ34 : Gm (Bool)) : CFun := updC (bindC Γ) 34 packet_is_out γ34
theorem T53 (Γ : Fun) (γ34 : Gm (Bool)) (Λ2 J : Lam) (p0 : Int) (p1 : Int) : bodyC SE (C53 Γ γ34) Λ2 J 53 [.d (.int .i64 p0), .d (.int .i64 p1)] [] [] =
  γ34 [.d (.int .i64 p0), .d (.int .i64 1), .d (.int .i64 65535)] [] [] fun r0 =>
  cond (!r0) (
   (some (.ret [.d (.int .i64 15)] [] []))) (
  cond (p1 == 0) (
   (some (.ret [.d (.int .i64 1)] [] []))) (
  cond (decide (p1 > 32)) (
   (some (.ret [.d (.int .i64 5)] [] []))) (
  (some (.ret [.d (.int .i64 0)] [] []))))) := by kernel_rfl
abbrev X53 : CFun := C53 (callG SE good) (callT SE good 34 packet_is_out)
theorem Cr53 : C53 (callG SE good) (callT SE good 34 packet_is_out) = bindC (callG SE good) := by unfold C53; rw [updC_real (fun _ h => h)]
theorem packet_counted_ok (p0 : Int) (p1 : Int) : Le (Option.map packet_counted_out (packet_counted p0 p1)) (callW SE 53 [.d (.int .i64 p0), .d (.int .i64 p1)] [] []) := by
  refine le_bodyC Cr53 rfl ?_
  refine Le.trans ?_ (le_of_eq (T53 _ _ _ _  p0 p1).symm)
  unfold packet_counted
  refine le_call (good := good) (fun y => ⟨y, rfl⟩) packet_is_inj (packet_is_ok p0 1 65535) (fun r0 _ => ?_)
  refine le_cond rfl (fun _ => ?_) (fun _ => ?_)
  · skip
    exact le_ret (by first | rfl | (simp only [EN, packet_counted_out]; done) | (simp only [EN, packet_counted_out]; rfl))
  · skip
    refine le_cond rfl (fun _ => ?_) (fun _ => ?_)
    · skip
      exact le_ret (by first | rfl | (simp only [EN, packet_counted_out]; done) | (simp only [EN, packet_counted_out]; rfl))
    · skip
      refine le_cond rfl (fun _ => ?_) (fun _ => ?_)
      · skip
        exact le_ret (by first | rfl | (simp only [EN, packet_counted_out]; done) | (simp only [EN, packet_counted_out]; rfl))
      · skip
        exact le_ret (by first | rfl | (simp only [EN, packet_counted_out]; done) | (simp only [EN, packet_counted_out]; rfl))
def C69 (Γ : Fun)  : CFun := bindC Γ
theorem T69 (Γ : Fun)  (Λ2 J : Lam) (p0 : Str) (p1 : Str) : bodyC SE (C69 Γ) Λ2 J 69 [.d (.str p0), .d (.str p1)] [] [] =
  cond (decide ((List.length p0 : Int) ≥ (List.length p1 : Int))) (
   cond (decide (0 ≤ (List.length p1 : Int)) && decide ((List.length p1 : Int) ≤ ((List.length p0) : Int))) (
    (some (.ret [.d (.bool ((cutL p0 none (some (List.length p1 : Int))) == p1))] [] []))) none) (
  (some (.ret [.d (.bool false)] [] []))) := by kernel_rfl
abbrev X69 : CFun := C69 (callG SE good)
theorem Cr69 : C69 (callG SE good) = bindC (callG SE good) := by unfold C69; rfl
theorem stringslite_HasPrefix_ok (p0 : Str) (p1 : Str) : Le (Option.map stringslite_HasPrefix_out (stringslite_HasPrefix p0 p1)) (callW SE 69 [.d (.str p0), .d (.str p1)] [] []) := by
  refine le_bodyC Cr69 rfl ?_
  refine Le.trans ?_ (le_of_eq (T69 _ _ _  p0 p1).symm)
  unfold stringslite_HasPrefix
  refine le_cond rfl (fun _ => ?_) (fun _ => ?_)
  · skip
    refine le_cond rfl (fun _ => ?_) (fun _ => le_none)
    exact le_ret (by first | rfl | (simp only [EN, stringslite_HasPrefix_out]; done) | (simp only [EN, stringslite_HasPrefix_out]; rfl))
  · skip
    exact le_ret (by first | rfl | (simp only [EN, stringslite_HasPrefix_out]; done) | (simp only [EN, stringslite_HasPrefix_out]; rfl))
def C71 (Γ : Fun) (γ69 : Gm (Bool)) : CFun := updC (bindC Γ) 69 stringslite_HasPrefix_out γ69
theorem T71 (Γ : Fun) (γ69 : Gm (Bool)) (Λ2 J : Lam) (p0 : Str) (p1 : Str) : bodyC SE (C71 Γ γ69) Λ2 J 71 [.d (.str p0), .d (.str p1)] [] [] =
  γ69 [.d (.str p0), .d (.str p1)] [] [] fun r0 =>
  cond (!r0) (
   (some (.ret [.d (.str p0), .d (.bool false)] [] []))) (
  cond (decide (0 ≤ (List.length p1 : Int)) && decide ((List.length p1 : Int) ≤ ((List.length p0) : Int))) (
   (some (.ret [.d (.str (cutL p0 (some (List.length p1 : Int)) none)), .d (.bool true)] [] []))) none) := by kernel_rfl
abbrev X71 : CFun := C71 (callG SE good) (callT SE good 69 stringslite_HasPrefix_out)
theorem Cr71 : C71 (callG SE good) (callT SE good 69 stringslite_HasPrefix_out) = bindC (callG SE good) := by unfold C71; rw [updC_real (fun _ h => h)]
theorem stringslite_CutPrefix_ok (p0 : Str) (p1 : Str) : Le (Option.map stringslite_CutPrefix_out (stringslite_CutPrefix p0 p1)) (callW SE 71 [.d (.str p0), .d (.str p1)] [] []) := by
  refine le_bodyC Cr71 rfl ?_
  refine Le.trans ?_ (le_of_eq (T71 _ _ _ _  p0 p1).symm)
  unfold stringslite_CutPrefix
  refine le_call (good := good) (fun y => ⟨y, rfl⟩) stringslite_HasPrefix_inj (stringslite_HasPrefix_ok p0 p1) (fun r0 _ => ?_)
  refine le_cond rfl (fun _ => ?_) (fun _ => ?_)
  · skip
    exact le_ret (by first | rfl | (simp only [EN, stringslite_CutPrefix_out]; done) | (simp only [EN, stringslite_CutPrefix_out]; rfl))
  · skip
    refine le_cond rfl (fun _ => ?_) (fun _ => le_none)
    exact le_ret (by first | rfl | (simp only [EN, stringslite_CutPrefix_out]; done) | (simp only [EN, stringslite_CutPrefix_out]; rfl))
def C66 (Γ : Fun) (γ71 : Gm (Str × Bool)) : CFun := updC (bindC Γ) 71 stringslite_CutPrefix_out γ71
theorem T66 (Γ : Fun) (γ71 : Gm (Str × Bool)) (Λ2 J : Lam) (p0 : Str) (p1 : Str) : bodyC SE (C66 Γ γ71) Λ2 J 66 [.d (.str p0), .d (.str p1)] [] [] =
  γ71 [.d (.str p0), .d (.str p1)] [] [] fun r0 =>
  (some (.ret [.d (.str r0.1), .d (.bool r0.2)] [] [])) := by kernel_rfl
abbrev X66 : CFun := C66 (callG SE good) (callT SE good 71 stringslite_CutPrefix_out)
theorem Cr66 : C66 (callG SE good) (callT SE good 71 stringslite_CutPrefix_out) = bindC (callG SE good) := by unfold C66; rw [updC_real (fun _ h => h)]
theorem strings_CutPrefix_ok (p0 : Str) (p1 : Str) : Le (Option.map strings_CutPrefix_out (strings_CutPrefix p0 p1)) (callW SE 66 [.d (.str p0), .d (.str p1)] [] []) := by
  refine le_bodyC Cr66 rfl ?_
  refine Le.trans ?_ (le_of_eq (T66 _ _ _ _  p0 p1).symm)
  unfold strings_CutPrefix
  refine le_call (good := good) (fun y => ⟨y, rfl⟩) stringslite_CutPrefix_inj (stringslite_CutPrefix_ok p0 p1) (fun r0 _ => ?_)
  exact le_ret (by first | rfl | (simp only [EN, strings_CutPrefix_out]; done) | (simp only [EN, strings_CutPrefix_out]; rfl))
def C76 (Γ : Fun)  : CFun := bindC Γ
theorem T76 (Γ : Fun)  (Λ2 J : Lam) (p0 : Str) (p1 : Int) : bodyC SE (C76 Γ) Λ2 J 76 [.d (.str p0), .d (.int .u8 p1)] [] [] =
  (some (.ret [.d (.int .i64 (Lib.indexByte p0 (UInt8.ofNat (Int.toNat p1)) : Int))] [] [])) := by kernel_rfl
abbrev X76 : CFun := C76 (callG SE good)
theorem Cr76 : C76 (callG SE good) = bindC (callG SE good) := by unfold C76; rfl
theorem stringslite_IndexByte_ok (p0 : Str) (p1 : Int) : Le (Option.map stringslite_IndexByte_out (stringslite_IndexByte p0 p1)) (callW SE 76 [.d (.str p0), .d (.int .u8 p1)] [] []) := by
  refine le_bodyC Cr76 rfl ?_
  refine Le.trans ?_ (le_of_eq (T76 _ _ _  p0 p1).symm)
  unfold stringslite_IndexByte
  exact le_ret (by first | rfl | (simp only [EN, stringslite_IndexByte_out]; done) | (simp only [EN, stringslite_IndexByte_out]; rfl))
def C74 (Γ : Fun) (γ76 : Gm (Int)) : CFun := updC (bindC Γ) 76 stringslite_IndexByte_out γ76
theorem T74 (Γ : Fun) (γ76 : Gm (Int)) (Λ2 J : Lam) (p0 : Str) (p1 : Str) : bodyC SE (C74 Γ γ76) Λ2 J 74 [.d (.str p0), .d (.str p1)] [] [] =
  cond ((List.length p1 : Int) == 0) (
   (some (.ret [.d (.int .i64 0)] [] []))) (
  cond (p1 == p0) (
   (some (.ret [.d (.int .i64 0)] [] []))) (
  cond ((List.length p1 : Int) == 1) (
   cond (decide (0 ≤ 0) && decide (0 < (List.length p1 : Int))) (
    γ76 [.d (.str p0), .d (.int .u8 (UInt8.toNat (List.getD p1 (Int.toNat 0) 0) : Int))] [] [] fun r0 =>
    (some (.ret [.d (.int .i64 r0)] [] []))) none) (
  cond (decide ((List.length p1 : Int) ≥ (List.length p0 : Int))) (
   (some (.ret [.d (.int .i64 (-1))] [] []))) none))) := by kernel_rfl
abbrev X74 : CFun := C74 (callG SE good) (callT SE good 76 stringslite_IndexByte_out)
theorem Cr74 : C74 (callG SE good) (callT SE good 76 stringslite_IndexByte_out) = bindC (callG SE good) := by unfold C74; rw [updC_real (fun _ h => h)]
theorem stringslite_Index_ok (p0 : Str) (p1 : Str) : Le (Option.map stringslite_Index_out (stringslite_Index p0 p1)) (callW SE 74 [.d (.str p0), .d (.str p1)] [] []) := by
  refine le_bodyC Cr74 rfl ?_
  refine Le.trans ?_ (le_of_eq (T74 _ _ _ _  p0 p1).symm)
  unfold stringslite_Index
  refine le_cond rfl (fun _ => ?_) (fun _ => ?_)
  · skip
    exact le_ret (by first | rfl | (simp only [EN, stringslite_Index_out]; done) | (simp only [EN, stringslite_Index_out]; rfl))
  · skip
    refine le_cond rfl (fun _ => ?_) (fun _ => ?_)
    · skip
      exact le_ret (by first | rfl | (simp only [EN, stringslite_Index_out]; done) | (simp only [EN, stringslite_Index_out]; rfl))
    · skip
      refine le_cond rfl (fun _ => ?_) (fun _ => ?_)
      · skip
        refine le_cond rfl (fun _ => ?_) (fun _ => le_none)
        refine le_call (good := good) (fun y => ⟨y, rfl⟩) stringslite_IndexByte_inj (stringslite_IndexByte_ok p0 (UInt8.toNat (List.getD p1 (Int.toNat 0) 0) : Int)) (fun r0 _ => ?_)
        exact le_ret (by first | rfl | (simp only [EN, stringslite_Index_out]; done) | (simp only [EN, stringslite_Index_out]; rfl))
      · skip
        refine le_cond rfl (fun _ => ?_) (fun _ => le_none)
        exact le_ret (by first | rfl | (simp only [EN, stringslite_Index_out]; done) | (simp only [EN, stringslite_Index_out]; rfl))
def C72 (Γ : Fun) (γ74 : Gm (Int)) : CFun := updC (bindC Γ) 74 stringslite_Index_out γ74
theorem T72 (Γ : Fun) (γ74 : Gm (Int)) (Λ2 J : Lam) (p0 : Str) (p1 : Str) : bodyC SE (C72 Γ γ74) Λ2 J 72 [.d (.str p0), .d (.str p1)] [] [] =
  γ74 [.d (.str p0), .d (.str p1)] [] [] fun r0 =>
  cond (decide (r0 ≥ 0)) (
   cond (decide (0 ≤ r0) && decide (r0 ≤ ((List.length p0) : Int))) (
    cond (decide (0 ≤ (IntKind.wrap .i64 (r0 + (List.length p1 : Int)))) && decide ((IntKind.wrap .i64 (r0 + (List.length p1 : Int))) ≤ ((List.length p0) : Int))) (
     (some (.ret [.d (.str (cutL p0 none (some r0))), .d (.str (cutL p0 (some (IntKind.wrap .i64 (r0 + (List.length p1 : Int)))) none)), .d (.bool true)] [] []))) none) none) (
  (some (.ret [.d (.str p0), .d (.str ([] : Str)), .d (.bool false)] [] []))) := by kernel_rfl
abbrev X72 : CFun := C72 (callG SE good) (callT SE good 74 stringslite_Index_out)
theorem Cr72 : C72 (callG SE good) (callT SE good 74 stringslite_Index_out) = bindC (callG SE good) := by unfold C72; rw [updC_real (fun _ h => h)]
theorem stringslite_Cut_ok (p0 : Str) (p1 : Str) : Le (Option.map stringslite_Cut_out (stringslite_Cut p0 p1)) (callW SE 72 [.d (.str p0), .d (.str p1)] [] []) := by
  refine le_bodyC Cr72 rfl ?_
  refine Le.trans ?_ (le_of_eq (T72 _ _ _ _  p0 p1).symm)
  unfold stringslite_Cut
  refine le_call (good := good) (fun y => ⟨y, rfl⟩) stringslite_Index_inj (stringslite_Index_ok p0 p1) (fun r0 _ => ?_)
  refine le_cond rfl (fun _ => ?_) (fun _ => ?_)
  · skip
    refine le_cond rfl (fun _ => ?_) (fun _ => le_none)
    refine le_cond rfl (fun _ => ?_) (fun _ => le_none)
    exact le_ret (by first | rfl | (simp only [EN, stringslite_Cut_out]; done) | (simp only [EN, stringslite_Cut_out]; rfl))
  · skip
    exact le_ret (by first | rfl | (simp only [EN, stringslite_Cut_out]; done) | (simp only [EN, stringslite_Cut_out]; rfl))
def C67 (Γ : Fun) (γ72 : Gm (Str × Str × Bool)) : CFun := updC (bindC Γ) 72 stringslite_Cut_out γ72
theorem T67 (Γ : Fun) (γ72 : Gm (Str × Str × Bool)) (Λ2 J : Lam) (p0 : Str) (p1 : Str) : bodyC SE (C67 Γ γ72) Λ2 J 67 [.d (.str p0), .d (.str p1)] [] [] =
  γ72 [.d (.str p0), .d (.str p1)] [] [] fun r0 =>
  (some (.ret [.d (.str r0.1), .d (.str r0.2.1), .d (.bool r0.2.2)] [] [])) := by kernel_rfl
abbrev X67 : CFun := C67 (callG SE good) (callT SE good 72 stringslite_Cut_out)
theorem Cr67 : C67 (callG SE good) (callT SE good 72 stringslite_Cut_out) = bindC (callG SE good) := by unfold C67; rw [updC_real (fun _ h => h)]
theorem strings_Cut_ok (p0 : Str) (p1 : Str) : Le (Option.map strings_Cut_out (strings_Cut p0 p1)) (callW SE 67 [.d (.str p0), .d (.str p1)] [] []) := by
  refine le_bodyC Cr67 rfl ?_
  refine Le.trans ?_ (le_of_eq (T67 _ _ _ _  p0 p1).symm)
  unfold strings_Cut
  refine le_call (good := good) (fun y => ⟨y, rfl⟩) stringslite_Cut_inj (stringslite_Cut_ok p0 p1) (fun r0 _ => ?_)
  exact le_ret (by first | rfl | (simp only [EN, strings_Cut_out]; done) | (simp only [EN, strings_Cut_out]; rfl))
def C82 (Γ : Fun) (γ74 : Gm (Int)) : CFun := updC (bindC Γ) 74 stringslite_Index_out γ74
theorem T82 (Γ : Fun) (γ74 : Gm (Int)) (Λ2 J : Lam) (p0 : Str) (p1 : Str) : bodyC SE (C82 Γ γ74) Λ2 J 82 [.d (.str p0), .d (.str p1)] [] [] =
  γ74 [.d (.str p0), .d (.str p1)] [] [] fun r0 =>
  (some (.ret [.d (.int .i64 r0)] [] [])) := by kernel_rfl
abbrev X82 : CFun := C82 (callG SE good) (callT SE good 74 stringslite_Index_out)
theorem Cr82 : C82 (callG SE good) (callT SE good 74 stringslite_Index_out) = bindC (callG SE good) := by unfold C82; rw [updC_real (fun _ h => h)]
theorem strings_Index_ok (p0 : Str) (p1 : Str) : Le (Option.map strings_Index_out (strings_Index p0 p1)) (callW SE 82 [.d (.str p0), .d (.str p1)] [] []) := by
  refine le_bodyC Cr82 rfl ?_
  refine Le.trans ?_ (le_of_eq (T82 _ _ _ _  p0 p1).symm)
  unfold strings_Index
  refine le_call (good := good) (fun y => ⟨y, rfl⟩) stringslite_Index_inj (stringslite_Index_ok p0 p1) (fun r0 _ => ?_)
  exact le_ret (by first | rfl | (simp only [EN, strings_Index_out]; done) | (simp only [EN, strings_Index_out]; rfl))
def C81 (Γ : Fun) (γ82 : Gm (Int)) : CFun := updC (bindC Γ) 82 strings_Index_out γ82
def R81_6 (C : CFun) (Λ2 J : Lam) (a0 : Str) (a1 : Str) (a2 : Int) : Res := lab SE C Λ2 J 81 0 [1, 1, 1, 1, 0] (stoOf [(0, .d (.str a0)), (1, .d (.str a1)), (5, .d (.int .i64 a2))] [] [] [] [])
theorem T81 (Γ : Fun) (γ82 : Gm (Int)) (Λ2 J : Lam) (p0 : Str) (p1 : Str) : bodyC SE (C81 Γ γ82) Λ2 J 81 [.d (.str p0), .d (.str p1)] [] [] =
  cond ((List.length p1 : Int) == 0) (
   none) (
  cond ((List.length p1 : Int) == 1) (
   cond (decide (0 ≤ 0) && decide (0 < (List.length p1 : Int))) (
    (some (.ret [.d (.int .i64 (Lib.countByte p0 (UInt8.ofNat (Int.toNat (UInt8.toNat (List.getD p1 (Int.toNat 0) 0) : Int))) : Int))] [] []))) none) (
  R81_6 (C81 Γ γ82) Λ2 J p0 p1 0)) := by kernel_rfl
theorem T81_6 (Γ : Fun) (γ82 : Gm (Int)) (Λ2 J : Lam) (x0 : Str) (x1 : Str) (x5 : Int) : labU SE (C81 Γ γ82) Λ2 J 81 0 [1, 1, 1, 1, 0] (stoOf [(0, .d (.str x0)), (1, .d (.str x1)), (5, .d (.int .i64 x5))] [] [] [] []) =
  γ82 [.d (.str x0), .d (.str x1)] [] [] fun r0 =>
  cond (r0 == (-1)) (
   (some (.ret [.d (.int .i64 x5)] [] []))) (
  cond (decide (0 ≤ (IntKind.wrap .i64 (r0 + (List.length x1 : Int)))) && decide ((IntKind.wrap .i64 (r0 + (List.length x1 : Int))) ≤ ((List.length x0) : Int))) (
   R81_6 (C81 Γ γ82) Λ2 J (cutL x0 (some (IntKind.wrap .i64 (r0 + (List.length x1 : Int)))) none) x1 (IntKind.wrap .i64 (x5 + 1))) none) := by kernel_rfl
abbrev X81 : CFun := C81 (callG SE good) (callT SE good 82 strings_Index_out)
theorem Cr81 : C81 (callG SE good) (callT SE good 82 strings_Index_out) = bindC (callG SE good) := by unfold C81; rw [updC_real (fun _ h => h)]
noncomputable abbrev Q81_6 (a0 : Str) (a1 : Str) (a2 : Int) : Res := R81_6 X81 (lam2 SE (callG SE good) (SE.hl 81) (SE.hr 81)) (J0 SE X81) a0 a1 a2
theorem strings_Count_l6_ok : ∀ (fu : Nat) (x0 : Str) (x1 : Str) (x5 : Int), Le (Option.map strings_Count_out (strings_Count_l6 fu x0 x1 x5)) (Q81_6 x0 x1 x5) := by
  intro fu
  induction fu with
  | zero => intros; exact le_none
  | succ fu ih =>
    intro x0 x1 x5
    refine Le.trans ?_ (le_of_eq ((lab_realC Cr81).trans (T81_6 _ _ _ _  x0 x1 x5)).symm)
    unfold strings_Count_l6
    refine le_call (good := good) (fun y => ⟨y, rfl⟩) strings_Index_inj (strings_Index_ok x0 x1) (fun r0 _ => ?_)
    refine le_cond rfl (fun _ => ?_) (fun _ => ?_)
    · skip
      exact le_ret (by first | rfl | (simp only [EN, strings_Count_out]; done) | (simp only [EN, strings_Count_out]; rfl))
    · skip
      refine le_cond rfl (fun _ => ?_) (fun _ => le_none)
      exact ih (cutL x0 (some (IntKind.wrap .i64 (r0 + (List.length x1 : Int)))) none) x1 (IntKind.wrap .i64 (x5 + 1))
theorem strings_Count_ok (p0 : Str) (p1 : Str) : Le (Option.map strings_Count_out (strings_Count p0 p1)) (callW SE 81 [.d (.str p0), .d (.str p1)] [] []) := by
  refine le_bodyC Cr81 rfl ?_
  refine Le.trans ?_ (le_of_eq (T81 _ _ _ _  p0 p1).symm)
  unfold strings_Count
  refine le_cond rfl (fun _ => ?_) (fun _ => ?_)
  · skip
    exact le_none
  · skip
    refine le_cond rfl (fun _ => ?_) (fun _ => ?_)
    · skip
      refine le_cond rfl (fun _ => ?_) (fun _ => le_none)
      exact le_ret (by first | rfl | (simp only [EN, strings_Count_out]; done) | (simp only [EN, strings_Count_out]; rfl))
    · skip
      exact strings_Count_l6_ok fuel p0 p1 0
def C75 (Γ : Fun) (γ81 : Gm (Int)) (γ82 : Gm (Int)) : CFun := updC (updC (bindC Γ) 81 strings_Count_out γ81) 82 strings_Index_out γ82
def R75_17 (C : CFun) (Λ2 J : Lam) (a0 : Str) (a1 : Int) (a2 : (List (List D))) : Res := lab SE C Λ2 J 75 0 [1, 1, 1, 1, 1, 1, 1, 1, 1, 0] (stoOf [(0, .d (.str a0)), (9, .row 3009), (10, .d (.int .i64 a1))] [] [] [] [(3009, ⟨[.str], 9, 16, a2⟩)])
def R75_11 (C : CFun) (Λ2 J : Lam) (a0 : Str) (a1 : Str) (a2 : Int) (a3 : Int) (a4 : Int) (a5 : (List (List D))) : Res := lab SE C Λ2 J 75 0 [1, 1, 1, 1, 1, 1, 1, 1, 0, 0] (stoOf [(0, .d (.str a0)), (1, .d (.str a1)), (2, .d (.int .i64 a2)), (3, .d (.int .i64 a3)), (9, .row 3009), (10, .d (.int .i64 a4))] [] [] [] [(3009, ⟨[.str], 9, 16, a5⟩)])
def R75_7 (C : CFun) (Λ2 J : Lam) (a0 : Str) (a1 : Str) (a2 : Int) (a3 : Int) : Res := lab SE C Λ2 J 75 0 [1, 1, 1, 1, 0] (stoOf [(0, .d (.str a0)), (1, .d (.str a1)), (2, .d (.int .i64 a2)), (3, .d (.int .i64 a3))] [] [] [] [])
theorem T75 (Γ : Fun) (γ81 : Gm (Int)) (γ82 : Gm (Int)) (Λ2 J : Lam) (p0 : Str) (p1 : Str) (p2 : Int) (p3 : Int) : bodyC SE (C75 Γ γ81 γ82) Λ2 J 75 [.d (.str p0), .d (.str p1), .d (.int .i64 p2), .d (.int .i64 p3)] [] [] =
  cond (p3 == 0) (
   (some (.ret [.d (.sl [.str] (List.map encS []))] [] []))) (
  cond (p1 == ([] : Str)) (
   none) (
  cond (decide (p3 < 0)) (
   γ81 [.d (.str p0), .d (.str p1)] [] [] fun r0 =>
   R75_7 (C75 Γ γ81 γ82) Λ2 J p0 p1 p2 (IntKind.wrap .i64 (r0 + 1))) (
  R75_7 (C75 Γ γ81 γ82) Λ2 J p0 p1 p2 p3))) := by kernel_rfl
theorem T75_17 (Γ : Fun) (γ81 : Gm (Int)) (γ82 : Gm (Int)) (Λ2 J : Lam) (x0 : Str) (x10 : Int) (w3009 : (List Str)) : labU SE (C75 Γ γ81 γ82) Λ2 J 75 0 [1, 1, 1, 1, 1, 1, 1, 1, 1, 0] (stoOf [(0, .d (.str x0)), (9, .row 3009), (10, .d (.int .i64 x10))] [] [] [] [(3009, ⟨[.str], 9, 16, (List.map encS w3009)⟩)]) =
  cond (decide (0 ≤ x10) && decide (x10 < (List.length (List.map encS w3009) : Int))) (
   cond (decide (0 ≤ (IntKind.wrap .i64 (x10 + 1))) && decide ((IntKind.wrap .i64 (x10 + 1)) ≤ ((List.length (setE (List.map encS w3009) (Int.toNat x10) 0 [D.str x0])) : Int))) (
    (some (.ret [.d (.sl [.str] (List.take ((Int.toNat (IntKind.wrap .i64 (x10 + 1))) - 0) (List.drop 0 (setE (List.map encS w3009) (Int.toNat x10) 0 [D.str x0]))))] [] []))) none) none := by kernel_rfl
theorem T75_11 (Γ : Fun) (γ81 : Gm (Int)) (γ82 : Gm (Int)) (Λ2 J : Lam) (x0 : Str) (x1 : Str) (x2 : Int) (x3 : Int) (x10 : Int) (w3009 : (List Str)) : labU SE (C75 Γ γ81 γ82) Λ2 J 75 0 [1, 1, 1, 1, 1, 1, 1, 1, 0, 0] (stoOf [(0, .d (.str x0)), (1, .d (.str x1)), (2, .d (.int .i64 x2)), (3, .d (.int .i64 x3)), (9, .row 3009), (10, .d (.int .i64 x10))] [] [] [] [(3009, ⟨[.str], 9, 16, (List.map encS w3009)⟩)]) =
  cond (decide (x10 < x3)) (
   γ82 [.d (.str x0), .d (.str x1)] [] [] fun r1 =>
   cond (decide (r1 < 0)) (
    R75_17 (C75 Γ γ81 γ82) Λ2 J x0 x10 (List.map encS w3009)) (
   cond (decide (0 ≤ (IntKind.wrap .i64 (r1 + x2))) && decide ((IntKind.wrap .i64 (r1 + x2)) ≤ ((List.length x0) : Int))) (
    cond (decide (0 ≤ x10) && decide (x10 < (List.length (List.map encS w3009) : Int))) (
     cond (decide (0 ≤ (IntKind.wrap .i64 (r1 + (List.length x1 : Int)))) && decide ((IntKind.wrap .i64 (r1 + (List.length x1 : Int))) ≤ ((List.length x0) : Int))) (
      R75_11 (C75 Γ γ81 γ82) Λ2 J (cutL x0 (some (IntKind.wrap .i64 (r1 + (List.length x1 : Int)))) none) x1 x2 x3 (IntKind.wrap .i64 (x10 + 1)) ((setE (List.map encS w3009) (Int.toNat x10) 0 [D.str (cutL x0 none (some (IntKind.wrap .i64 (r1 + x2))))]))) none) none) none)) (
  R75_17 (C75 Γ γ81 γ82) Λ2 J x0 x10 (List.map encS w3009)) := by kernel_rfl
theorem T75_7 (Γ : Fun) (γ81 : Gm (Int)) (γ82 : Gm (Int)) (Λ2 J : Lam) (x0 : Str) (x1 : Str) (x2 : Int) (x3 : Int) : labU SE (C75 Γ γ81 γ82) Λ2 J 75 0 [1, 1, 1, 1, 0] (stoOf [(0, .d (.str x0)), (1, .d (.str x1)), (2, .d (.int .i64 x2)), (3, .d (.int .i64 x3))] [] [] [] []) =
  cond (decide (0 ≤ (if (IntKind.wrap .i64 ((List.length x0 : Int) + 1)) < x3 then (IntKind.wrap .i64 ((List.length x0 : Int) + 1)) else x3)) && decide ((if (IntKind.wrap .i64 ((List.length x0 : Int) + 1)) < x3 then (IntKind.wrap .i64 ((List.length x0 : Int) + 1)) else x3) ≤ (if (IntKind.wrap .i64 ((List.length x0 : Int) + 1)) < x3 then (IntKind.wrap .i64 ((List.length x0 : Int) + 1)) else x3)) && decide ((if (IntKind.wrap .i64 ((List.length x0 : Int) + 1)) < x3 then (IntKind.wrap .i64 ((List.length x0 : Int) + 1)) else x3) * 16 ≤ 281474976710656)) (
   R75_11 (C75 Γ γ81 γ82) Λ2 J x0 x1 x2 ((IntKind.wrap .i64 ((if (IntKind.wrap .i64 ((List.length x0 : Int) + 1)) < x3 then (IntKind.wrap .i64 ((List.length x0 : Int) + 1)) else x3) - 1))) 0 ((List.replicate (Int.toNat (if (IntKind.wrap .i64 ((List.length x0 : Int) + 1)) < x3 then (IntKind.wrap .i64 ((List.length x0 : Int) + 1)) else x3)) [D.str ([] : Str)]))) none := by kernel_rfl
abbrev X75 : CFun := C75 (callG SE good) (callT SE good 81 strings_Count_out) (callT SE good 82 strings_Index_out)
theorem Cr75 : C75 (callG SE good) (callT SE good 81 strings_Count_out) (callT SE good 82 strings_Index_out) = bindC (callG SE good) := by unfold C75; rw [updC_real (fun _ h => h), updC_real (fun _ h => h)]
noncomputable abbrev Q75_17 (a0 : Str) (a1 : Int) (a2 : (List (List D))) : Res := R75_17 X75 (lam2 SE (callG SE good) (SE.hl 75) (SE.hr 75)) (J0 SE X75) a0 a1 a2
noncomputable abbrev Q75_11 (a0 : Str) (a1 : Str) (a2 : Int) (a3 : Int) (a4 : Int) (a5 : (List (List D))) : Res := R75_11 X75 (lam2 SE (callG SE good) (SE.hl 75) (SE.hr 75)) (J0 SE X75) a0 a1 a2 a3 a4 a5
noncomputable abbrev Q75_7 (a0 : Str) (a1 : Str) (a2 : Int) (a3 : Int) : Res := R75_7 X75 (lam2 SE (callG SE good) (SE.hl 75) (SE.hr 75)) (J0 SE X75) a0 a1 a2 a3
theorem strings_genSplit_j17_ok (x0 : Str) (x10 : Int) (w3009 : (List Str)) : Le (Option.map strings_genSplit_out (strings_genSplit_j17 x0 x10 w3009)) (Q75_17 x0 x10 (List.map encS w3009)) := by
  refine Le.trans ?_ (le_of_eq ((lab_realC Cr75).trans (T75_17 _ _ _ _ _  x0 x10 w3009)).symm)
  unfold strings_genSplit_j17
  refine le_cond (by simp only [EN]) (fun _ => ?_) (fun _ => le_none)
  refine le_cond (by simp only [EN]) (fun _ => ?_) (fun _ => le_none)
  exact le_ret (by first | rfl | (simp only [EN, strings_genSplit_out]; done) | (simp only [EN, strings_genSplit_out]; rfl))
theorem strings_genSplit_l11_ok : ∀ (fu : Nat) (x0 : Str) (x1 : Str) (x2 : Int) (x3 : Int) (x10 : Int) (w3009 : (List Str)), Le (Option.map strings_genSplit_out (strings_genSplit_l11 fu x0 x1 x2 x3 x10 w3009)) (Q75_11 x0 x1 x2 x3 x10 (List.map encS w3009)) := by
  intro fu
  induction fu with
  | zero => intros; exact le_none
  | succ fu ih =>
    intro x0 x1 x2 x3 x10 w3009
    refine Le.trans ?_ (le_of_eq ((lab_realC Cr75).trans (T75_11 _ _ _ _ _  x0 x1 x2 x3 x10 w3009)).symm)
    unfold strings_genSplit_l11
    refine le_cond rfl (fun _ => ?_) (fun _ => ?_)
    · skip
      refine le_call (good := good) (fun y => ⟨y, rfl⟩) strings_Index_inj (strings_Index_ok x0 x1) (fun r1 _ => ?_)
      refine le_cond rfl (fun _ => ?_) (fun _ => ?_)
      · skip
        exact strings_genSplit_j17_ok x0 x10 w3009
      · skip
        refine le_cond rfl (fun _ => ?_) (fun _ => le_none)
        refine le_cond (by simp only [EN]) (fun _ => ?_) (fun _ => le_none)
        refine le_cond rfl (fun _ => ?_) (fun _ => le_none)
        first | (simp only [EN]; exact ih (cutL x0 (some (IntKind.wrap .i64 (r1 + (List.length x1 : Int)))) none) x1 x2 x3 (IntKind.wrap .i64 (x10 + 1)) ((List.set w3009 (Int.toNat x10) (cutL x0 none (some (IntKind.wrap .i64 (r1 + x2))))))) | exact ih (cutL x0 (some (IntKind.wrap .i64 (r1 + (List.length x1 : Int)))) none) x1 x2 x3 (IntKind.wrap .i64 (x10 + 1)) ((List.set w3009 (Int.toNat x10) (cutL x0 none (some (IntKind.wrap .i64 (r1 + x2))))))
    · skip
      exact strings_genSplit_j17_ok x0 x10 w3009
theorem strings_genSplit_j7_ok (x0 : Str) (x1 : Str) (x2 : Int) (x3 : Int) : Le (Option.map strings_genSplit_out (strings_genSplit_j7 x0 x1 x2 x3)) (Q75_7 x0 x1 x2 x3) := by
  refine Le.trans ?_ (le_of_eq ((lab_realC Cr75).trans (T75_7 _ _ _ _ _  x0 x1 x2 x3)).symm)
  unfold strings_genSplit_j7
  refine le_cond rfl (fun _ => ?_) (fun _ => le_none)
  first | (simp only [EN]; exact strings_genSplit_l11_ok fuel x0 x1 x2 ((IntKind.wrap .i64 ((if (IntKind.wrap .i64 ((List.length x0 : Int) + 1)) < x3 then (IntKind.wrap .i64 ((List.length x0 : Int) + 1)) else x3) - 1))) 0 ((List.replicate (Int.toNat (if (IntKind.wrap .i64 ((List.length x0 : Int) + 1)) < x3 then (IntKind.wrap .i64 ((List.length x0 : Int) + 1)) else x3)) default))) | exact strings_genSplit_l11_ok fuel x0 x1 x2 ((IntKind.wrap .i64 ((if (IntKind.wrap .i64 ((List.length x0 : Int) + 1)) < x3 then (IntKind.wrap .i64 ((List.length x0 : Int) + 1)) else x3) - 1))) 0 ((List.replicate (Int.toNat (if (IntKind.wrap .i64 ((List.length x0 : Int) + 1)) < x3 then (IntKind.wrap .i64 ((List.length x0 : Int) + 1)) else x3)) default))
theorem strings_genSplit_ok (p0 : Str) (p1 : Str) (p2 : Int) (p3 : Int) : Le (Option.map strings_genSplit_out (strings_genSplit p0 p1 p2 p3)) (callW SE 75 [.d (.str p0), .d (.str p1), .d (.int .i64 p2), .d (.int .i64 p3)] [] []) := by
  refine le_bodyC Cr75 rfl ?_
  refine Le.trans ?_ (le_of_eq (T75 _ _ _ _ _  p0 p1 p2 p3).symm)
  unfold strings_genSplit
  refine le_cond rfl (fun _ => ?_) (fun _ => ?_)
  · skip
    exact le_ret (by first | rfl | (simp only [EN, strings_genSplit_out]; done) | (simp only [EN, strings_genSplit_out]; rfl))
  · skip
    refine le_cond rfl (fun _ => ?_) (fun _ => ?_)
    · skip
      exact le_none
    · skip
      refine le_cond rfl (fun _ => ?_) (fun _ => ?_)
      · skip
        refine le_call (good := good) (fun y => ⟨y, rfl⟩) strings_Count_inj (strings_Count_ok p0 p1) (fun r0 _ => ?_)
        exact strings_genSplit_j7_ok p0 p1 p2 (IntKind.wrap .i64 (r0 + 1))
      · skip
        exact strings_genSplit_j7_ok p0 p1 p2 p3
def C73 (Γ : Fun) (γ75 : Gm ((List Str))) : CFun := updC (bindC Γ) 75 strings_genSplit_out γ75
theorem T73 (Γ : Fun) (γ75 : Gm ((List Str))) (Λ2 J : Lam) (p0 : Str) (p1 : Str) : bodyC SE (C73 Γ γ75) Λ2 J 73 [.d (.str p0), .d (.str p1)] [] [] =
  γ75 [.d (.str p0), .d (.str p1), .d (.int .i64 0), .d (.int .i64 (-1))] [] [] fun r0 =>
  (some (.ret [.d (.sl [.str] (List.map encS r0))] [] [])) := by kernel_rfl
abbrev X73 : CFun := C73 (callG SE good) (callT SE good 75 strings_genSplit_out)
theorem Cr73 : C73 (callG SE good) (callT SE good 75 strings_genSplit_out) = bindC (callG SE good) := by unfold C73; rw [updC_real (fun _ h => h)]
theorem strings_Split_ok (p0 : Str) (p1 : Str) : Le (Option.map strings_Split_out (strings_Split p0 p1)) (callW SE 73 [.d (.str p0), .d (.str p1)] [] []) := by
  refine le_bodyC Cr73 rfl ?_
  refine Le.trans ?_ (le_of_eq (T73 _ _ _ _  p0 p1).symm)
  unfold strings_Split
  refine le_call (good := good) (fun y => ⟨y, rfl⟩) strings_genSplit_inj (strings_genSplit_ok p0 p1 0 (-1)) (fun r0 _ => ?_)
  exact le_ret (by first | rfl | (simp only [EN, strings_Split_out]; done) | (simp only [EN, strings_Split_out]; rfl))
def C68 (Γ : Fun) (γ73 : Gm ((List Str))) : CFun := updC (bindC Γ) 73 strings_Split_out γ73
theorem T68 (Γ : Fun) (γ73 : Gm ((List Str))) (Λ2 J : Lam) (p0 : Str) : bodyC SE (C68 Γ γ73) Λ2 J 68 [.d (.str p0)] [] [] =
  γ73 [.d (.str p0), .d (.str ([47] : Str))] [] [] fun r0 =>
  (some (.ret [.d (.sl [.str] (List.map encS r0))] [] [])) := by kernel_rfl
abbrev X68 : CFun := C68 (callG SE good) (callT SE good 73 strings_Split_out)
theorem Cr68 : C68 (callG SE good) (callT SE good 73 strings_Split_out) = bindC (callG SE good) := by unfold C68; rw [updC_real (fun _ h => h)]
theorem topic_Levels_ok (p0 : Str) : Le (Option.map topic_Levels_out (topic_Levels p0)) (callW SE 68 [.d (.str p0)] [] []) := by
  refine le_bodyC Cr68 rfl ?_
  refine Le.trans ?_ (le_of_eq (T68 _ _ _ _  p0).symm)
  unfold topic_Levels
  refine le_call (good := good) (fun y => ⟨y, rfl⟩) strings_Split_inj (strings_Split_ok p0 ([47] : Str)) (fun r0 _ => ?_)
  exact le_ret (by first | rfl | (simp only [EN, topic_Levels_out]; done) | (simp only [EN, topic_Levels_out]; rfl))
def C61 (Γ : Fun) (γ64 : Gm (Bool)) (γ68 : Gm ((List Str))) : CFun := updC (updC (bindC Γ) 64 topic_sized_out γ64) 68 topic_Levels_out γ68
def R61_9 (C : CFun) (Λ2 J : Lam) (a0 : (List (List D))) (a1 : Bool) (a2 : Int) (a3 : Str) (a4 : (List (List D))) (a5 : Int) (a6 : Int) (a7 : Str) (a8 : Nat) : Res := lab SE C Λ2 J 61 0 [1, 0, 1, 1, 1, 1, 0, 1, 0, 0, 1, 1, 0, 0, 1, 1, 0] (stoOf [(3, .d (.sl [.str] a0)), (4, .d (.bool a1)), (5, .d (.int .i64 a2)), (6, .d (.str a3)), (15, .d (.sl [.str] a4)), (16, .d (.int .i64 a5)), (17, .d (.int .i64 a6)), (23, .it 4000)] [] [] [(4000, (a7, a8))] [])
def R61_6 (C : CFun) (Λ2 J : Lam) (a0 : (List (List D))) (a1 : Bool) (a2 : (List (List D))) (a3 : Int) (a4 : Int) : Res := lab SE C Λ2 J 61 0 [1, 0, 1, 1, 1, 1, 0, 1, 0] (stoOf [(3, .d (.sl [.str] a0)), (4, .d (.bool a1)), (15, .d (.sl [.str] a2)), (16, .d (.int .i64 a3)), (17, .d (.int .i64 a4))] [] [] [] [])
theorem T61 (Γ : Fun) (γ64 : Gm (Bool)) (γ68 : Gm ((List Str))) (Λ2 J : Lam) (p0 : Str) : bodyC SE (C61 Γ γ64 γ68) Λ2 J 61 [.d (.str p0)] [] [] =
  γ64 [.d (.str p0)] [] [] fun r0 =>
  cond (!r0) (
   (some (.ret [.d (.bool false)] [] []))) (
  γ68 [.d (.str p0)] [] [] fun r1 =>
  R61_6 (C61 Γ γ64 γ68) Λ2 J (List.map encS r1) true (List.map encS r1) (List.length (List.map encS r1) : Int) 0) := by kernel_rfl
theorem T61_9 (Γ : Fun) (γ64 : Gm (Bool)) (γ68 : Gm ((List Str))) (Λ2 J : Lam) (x3 : (List Str)) (x4 : Bool) (x5 : Int) (x6 : Str) (x15 : (List Str)) (x16 : Int) (x17 : Int) (s4000 : Str) (i4000 : Nat) : labU SE (C61 Γ γ64 γ68) Λ2 J 61 0 [1, 0, 1, 1, 1, 1, 0, 1, 0, 0, 1, 1, 0, 0, 1, 1, 0] (stoOf [(3, .d (.sl [.str] (List.map encS x3))), (4, .d (.bool x4)), (5, .d (.int .i64 x5)), (6, .d (.str x6)), (15, .d (.sl [.str] (List.map encS x15))), (16, .d (.int .i64 x16)), (17, .d (.int .i64 x17)), (23, .it 4000)] [] [] [(4000, (s4000, i4000))] []) =
  cond (decide (i4000 < List.length s4000)) (
   cond (((dec s4000 i4000).1 : Int) == 43) (
    cond (!((List.length x6 : Int) == 1)) (
     (some (.ret [.d (.bool false)] [] []))) (
    cond (((dec s4000 i4000).1 : Int) == 35) (
     cond (!((List.length x6 : Int) == 1)) (
      (some (.ret [.d (.bool false)] [] []))) (
     cond (decide (x5 < (IntKind.wrap .i64 ((List.length (List.map encS x3) : Int) - 1)))) (
      (some (.ret [.d (.bool false)] [] []))) (
     R61_9 (C61 Γ γ64 γ68) Λ2 J (List.map encS x3) x4 x5 x6 (List.map encS x15) x16 x17 s4000 (i4000 + (dec s4000 i4000).2)))) (
    R61_9 (C61 Γ γ64 γ68) Λ2 J (List.map encS x3) x4 x5 x6 (List.map encS x15) x16 x17 s4000 (i4000 + (dec s4000 i4000).2)))) (
   cond (((dec s4000 i4000).1 : Int) == 35) (
    cond (!((List.length x6 : Int) == 1)) (
     (some (.ret [.d (.bool false)] [] []))) (
    cond (decide (x5 < (IntKind.wrap .i64 ((List.length (List.map encS x3) : Int) - 1)))) (
     (some (.ret [.d (.bool false)] [] []))) (
    R61_9 (C61 Γ γ64 γ68) Λ2 J (List.map encS x3) x4 x5 x6 (List.map encS x15) x16 x17 s4000 (i4000 + (dec s4000 i4000).2)))) (
   R61_9 (C61 Γ γ64 γ68) Λ2 J (List.map encS x3) x4 x5 x6 (List.map encS x15) x16 x17 s4000 (i4000 + (dec s4000 i4000).2)))) (
  R61_6 (C61 Γ γ64 γ68) Λ2 J (List.map encS x3) x4 (List.map encS x15) x16 (IntKind.wrap .i64 (x17 + 1))) := by kernel_rfl
theorem T61_6 (Γ : Fun) (γ64 : Gm (Bool)) (γ68 : Gm ((List Str))) (Λ2 J : Lam) (x3 : (List Str)) (x4 : Bool) (x15 : (List Str)) (x16 : Int) (x17 : Int) : labU SE (C61 Γ γ64 γ68) Λ2 J 61 0 [1, 0, 1, 1, 1, 1, 0, 1, 0] (stoOf [(3, .d (.sl [.str] (List.map encS x3))), (4, .d (.bool x4)), (15, .d (.sl [.str] (List.map encS x15))), (16, .d (.int .i64 x16)), (17, .d (.int .i64 x17))] [] [] [] []) =
  cond (decide (x17 < x16)) (
   cond (decide (0 ≤ x17) && decide (x17 < (List.length (List.map encS x15) : Int))) (
    R61_9 (C61 Γ γ64 γ68) Λ2 J (List.map encS x3) x4 x17 ((dStr (cellAt (elemAt (List.map encS x15) (Int.toNat x17)) 0))) (List.map encS x15) x16 x17 ((dStr (cellAt (elemAt (List.map encS x15) (Int.toNat x17)) 0))) 0) none) (
  (some (.ret [.d (.bool x4)] [] []))) := by kernel_rfl
abbrev X61 : CFun := C61 (callG SE good) (callT SE good 64 topic_sized_out) (callT SE good 68 topic_Levels_out)
theorem Cr61 : C61 (callG SE good) (callT SE good 64 topic_sized_out) (callT SE good 68 topic_Levels_out) = bindC (callG SE good) := by unfold C61; rw [updC_real (fun _ h => h), updC_real (fun _ h => h)]
noncomputable abbrev Q61_9 (a0 : (List (List D))) (a1 : Bool) (a2 : Int) (a3 : Str) (a4 : (List (List D))) (a5 : Int) (a6 : Int) (a7 : Str) (a8 : Nat) : Res := R61_9 X61 (lam2 SE (callG SE good) (SE.hl 61) (SE.hr 61)) (J0 SE X61) a0 a1 a2 a3 a4 a5 a6 a7 a8
noncomputable abbrev Q61_6 (a0 : (List (List D))) (a1 : Bool) (a2 : (List (List D))) (a3 : Int) (a4 : Int) : Res := R61_6 X61 (lam2 SE (callG SE good) (SE.hl 61) (SE.hr 61)) (J0 SE X61) a0 a1 a2 a3 a4
theorem topic_Filter_l9_ok : ∀ (fu : Nat) (k6 : (List Str) → Bool → (List Str) → Int → Int → Option (Bool)) (hk6 : ∀ (x3 : (List Str)) (x4 : Bool) (x15 : (List Str)) (x16 : Int) (x17 : Int), Le (Option.map topic_Filter_out (k6 x3 x4 x15 x16 x17)) (Q61_6 (List.map encS x3) x4 (List.map encS x15) x16 x17)) (x3 : (List Str)) (x4 : Bool) (x5 : Int) (x6 : Str) (x15 : (List Str)) (x16 : Int) (x17 : Int) (s4000 : Str) (i4000 : Nat), Le (Option.map topic_Filter_out (topic_Filter_l9 fu k6 x3 x4 x5 x6 x15 x16 x17 s4000 i4000)) (Q61_9 (List.map encS x3) x4 x5 x6 (List.map encS x15) x16 x17 s4000 i4000) := by
  intro fu
  induction fu with
  | zero => intros; exact le_none
  | succ fu ih =>
    intro k6 hk6 x3 x4 x5 x6 x15 x16 x17 s4000 i4000
    refine Le.trans ?_ (le_of_eq ((lab_realC Cr61).trans (T61_9 _ _ _ _ _  x3 x4 x5 x6 x15 x16 x17 s4000 i4000)).symm)
    unfold topic_Filter_l9
    refine le_cond rfl (fun _ => ?_) (fun _ => ?_)
    · skip
      refine le_cond rfl (fun _ => ?_) (fun _ => ?_)
      · skip
        refine le_cond rfl (fun _ => ?_) (fun _ => ?_)
        · skip
          exact le_ret (by first | rfl | (simp only [EN, topic_Filter_out]; done) | (simp only [EN, topic_Filter_out]; rfl))
        · skip
          refine le_cond rfl (fun _ => ?_) (fun _ => ?_)
          · skip
            refine le_cond rfl (fun _ => ?_) (fun _ => ?_)
            · skip
              exact le_ret (by first | rfl | (simp only [EN, topic_Filter_out]; done) | (simp only [EN, topic_Filter_out]; rfl))
            · skip
              refine le_cond (by simp only [EN]) (fun _ => ?_) (fun _ => ?_)
              · skip
                exact le_ret (by first | rfl | (simp only [EN, topic_Filter_out]; done) | (simp only [EN, topic_Filter_out]; rfl))
              · skip
                exact ih _ hk6 x3 x4 x5 x6 x15 x16 x17 s4000 (i4000 + (dec s4000 i4000).2)
          · skip
            exact ih _ hk6 x3 x4 x5 x6 x15 x16 x17 s4000 (i4000 + (dec s4000 i4000).2)
      · skip
        refine le_cond rfl (fun _ => ?_) (fun _ => ?_)
        · skip
          refine le_cond rfl (fun _ => ?_) (fun _ => ?_)
          · skip
            exact le_ret (by first | rfl | (simp only [EN, topic_Filter_out]; done) | (simp only [EN, topic_Filter_out]; rfl))
          · skip
            refine le_cond (by simp only [EN]) (fun _ => ?_) (fun _ => ?_)
            · skip
              exact le_ret (by first | rfl | (simp only [EN, topic_Filter_out]; done) | (simp only [EN, topic_Filter_out]; rfl))
            · skip
              exact ih _ hk6 x3 x4 x5 x6 x15 x16 x17 s4000 (i4000 + (dec s4000 i4000).2)
        · skip
          exact ih _ hk6 x3 x4 x5 x6 x15 x16 x17 s4000 (i4000 + (dec s4000 i4000).2)
    · skip
      exact hk6 x3 x4 x15 x16 (IntKind.wrap .i64 (x17 + 1))
theorem topic_Filter_l6_ok : ∀ (fu : Nat) (x3 : (List Str)) (x4 : Bool) (x15 : (List Str)) (x16 : Int) (x17 : Int), Le (Option.map topic_Filter_out (topic_Filter_l6 fu x3 x4 x15 x16 x17)) (Q61_6 (List.map encS x3) x4 (List.map encS x15) x16 x17) := by
  intro fu
  induction fu with
  | zero => intros; exact le_none
  | succ fu ih =>
    intro x3 x4 x15 x16 x17
    refine Le.trans ?_ (le_of_eq ((lab_realC Cr61).trans (T61_6 _ _ _ _ _  x3 x4 x15 x16 x17)).symm)
    unfold topic_Filter_l6
    refine le_cond rfl (fun _ => ?_) (fun _ => ?_)
    · skip
      refine le_cond (by simp only [EN]) (fun _ => ?_) (fun _ => le_none)
      first | (simp only [EN]; exact topic_Filter_l9_ok fuel _ (ih) x3 x4 x17 (List.getD x15 (Int.toNat x17) default) x15 x16 x17 (List.getD x15 (Int.toNat x17) default) 0) | exact topic_Filter_l9_ok fuel _ (ih) x3 x4 x17 (List.getD x15 (Int.toNat x17) default) x15 x16 x17 (List.getD x15 (Int.toNat x17) default) 0
    · skip
      exact le_ret (by first | rfl | (simp only [EN, topic_Filter_out]; done) | (simp only [EN, topic_Filter_out]; rfl))
theorem topic_Filter_ok (p0 : Str) : Le (Option.map topic_Filter_out (topic_Filter p0)) (callW SE 61 [.d (.str p0)] [] []) := by
  refine le_bodyC Cr61 rfl ?_
  refine Le.trans ?_ (le_of_eq (T61 _ _ _ _ _  p0).symm)
  unfold topic_Filter
  refine le_call (good := good) (fun y => ⟨y, rfl⟩) topic_sized_inj (topic_sized_ok p0) (fun r0 _ => ?_)
  refine le_cond rfl (fun _ => ?_) (fun _ => ?_)
  · skip
    exact le_ret (by first | rfl | (simp only [EN, topic_Filter_out]; done) | (simp only [EN, topic_Filter_out]; rfl))
  · skip
    refine le_call (good := good) (fun y => ⟨y, rfl⟩) topic_Levels_inj (topic_Levels_ok p0) (fun r1 _ => ?_)
    first | (simp only [EN]; exact topic_Filter_l6_ok fuel r1 true r1 (List.length r1 : Int) 0) | exact topic_Filter_l6_ok fuel r1 true r1 (List.length r1 : Int) 0
def C62 (Γ : Fun) (γ69 : Gm (Bool)) : CFun := updC (bindC Γ) 69 stringslite_HasPrefix_out γ69
theorem T62 (Γ : Fun) (γ69 : Gm (Bool)) (Λ2 J : Lam) (p0 : Str) (p1 : Str) : bodyC SE (C62 Γ γ69) Λ2 J 62 [.d (.str p0), .d (.str p1)] [] [] =
  γ69 [.d (.str p0), .d (.str p1)] [] [] fun r0 =>
  (some (.ret [.d (.bool r0)] [] [])) := by kernel_rfl
abbrev X62 : CFun := C62 (callG SE good) (callT SE good 69 stringslite_HasPrefix_out)
theorem Cr62 : C62 (callG SE good) (callT SE good 69 stringslite_HasPrefix_out) = bindC (callG SE good) := by unfold C62; rw [updC_real (fun _ h => h)]
theorem strings_HasPrefix_ok (p0 : Str) (p1 : Str) : Le (Option.map strings_HasPrefix_out (strings_HasPrefix p0 p1)) (callW SE 62 [.d (.str p0), .d (.str p1)] [] []) := by
  refine le_bodyC Cr62 rfl ?_
  refine Le.trans ?_ (le_of_eq (T62 _ _ _ _  p0 p1).symm)
  unfold strings_HasPrefix
  refine le_call (good := good) (fun y => ⟨y, rfl⟩) stringslite_HasPrefix_inj (stringslite_HasPrefix_ok p0 p1) (fun r0 _ => ?_)
  exact le_ret (by first | rfl | (simp only [EN, strings_HasPrefix_out]; done) | (simp only [EN, strings_HasPrefix_out]; rfl))
def C60 (Γ : Fun) (γ66 : Gm (Str × Bool)) (γ67 : Gm (Str × Str × Bool)) (γ51 : Gm (Bool)) (γ61 : Gm (Bool)) (γ62 : Gm (Bool)) : CFun := updC (updC (updC (updC (updC (bindC Γ) 66 strings_CutPrefix_out γ66) 67 strings_Cut_out γ67) 51 topic_Name_out γ51) 61 topic_Filter_out γ61) 62 strings_HasPrefix_out γ62
theorem T60 (Γ : Fun) (γ66 : Gm (Str × Bool)) (γ67 : Gm (Str × Str × Bool)) (γ51 : Gm (Bool)) (γ61 : Gm (Bool)) (γ62 : Gm (Bool)) (Λ2 J : Lam) (p0 : Str) : bodyC SE (C60 Γ γ66 γ67 γ51 γ61 γ62) Λ2 J 60 [.d (.str p0)] [] [] =
  γ66 [.d (.str p0), .d (.str ([36, 115, 104, 97, 114, 101, 47] : Str))] [] [] fun r0 =>
  cond (!r0.2) (
   (some (.ret [.d (.str ([] : Str)), .d (.str ([] : Str)), .d (.bool false)] [] []))) (
  γ67 [.d (.str r0.1), .d (.str ([47] : Str))] [] [] fun r1 =>
  cond (!r1.2.2) (
   (some (.ret [.d (.str ([] : Str)), .d (.str ([] : Str)), .d (.bool false)] [] []))) (
  γ51 [.d (.str r1.1)] [] [] fun r2 =>
  cond (!r2) (
   (some (.ret [.d (.str ([] : Str)), .d (.str ([] : Str)), .d (.bool false)] [] []))) (
  γ61 [.d (.str r1.2.1)] [] [] fun r3 =>
  cond (!r3) (
   (some (.ret [.d (.str ([] : Str)), .d (.str ([] : Str)), .d (.bool false)] [] []))) (
  γ62 [.d (.str r1.2.1), .d (.str ([36, 115, 104, 97, 114, 101, 47] : Str))] [] [] fun r4 =>
  cond r4 (
   (some (.ret [.d (.str ([] : Str)), .d (.str ([] : Str)), .d (.bool false)] [] []))) (
  (some (.ret [.d (.str r1.1), .d (.str r1.2.1), .d (.bool true)] [] []))))))) := by kernel_rfl
abbrev X60 : CFun := C60 (callG SE good) (callT SE good 66 strings_CutPrefix_out) (callT SE good 67 strings_Cut_out) (callT SE good 51 topic_Name_out) (callT SE good 61 topic_Filter_out) (callT SE good 62 strings_HasPrefix_out)
theorem Cr60 : C60 (callG SE good) (callT SE good 66 strings_CutPrefix_out) (callT SE good 67 strings_Cut_out) (callT SE good 51 topic_Name_out) (callT SE good 61 topic_Filter_out) (callT SE good 62 strings_HasPrefix_out) = bindC (callG SE good) := by unfold C60; rw [updC_real (fun _ h => h), updC_real (fun _ h => h), updC_real (fun _ h => h), updC_real (fun _ h => h), updC_real (fun _ h => h)]
theorem topic_Shared_ok (p0 : Str) : Le (Option.map topic_Shared_out (topic_Shared p0)) (callW SE 60 [.d (.str p0)] [] []) := by
  refine le_bodyC Cr60 rfl ?_
  refine Le.trans ?_ (le_of_eq (T60 _ _ _ _ _ _ _ _  p0).symm)
  unfold topic_Shared
  refine le_call (good := good) (fun y => ⟨y, rfl⟩) strings_CutPrefix_inj (strings_CutPrefix_ok p0 ([36, 115, 104, 97, 114, 101, 47] : Str)) (fun r0 _ => ?_)
  refine le_cond rfl (fun _ => ?_) (fun _ => ?_)
  · skip
    exact le_ret (by first | rfl | (simp only [EN, topic_Shared_out]; done) | (simp only [EN, topic_Shared_out]; rfl))
  · skip
    refine le_call (good := good) (fun y => ⟨y, rfl⟩) strings_Cut_inj (strings_Cut_ok r0.1 ([47] : Str)) (fun r1 _ => ?_)
    refine le_cond rfl (fun _ => ?_) (fun _ => ?_)
    · skip
      exact le_ret (by first | rfl | (simp only [EN, topic_Shared_out]; done) | (simp only [EN, topic_Shared_out]; rfl))
    · skip
      refine le_call (good := good) (fun y => ⟨y, rfl⟩) topic_Name_inj (topic_Name_ok r1.1) (fun r2 _ => ?_)
      refine le_cond rfl (fun _ => ?_) (fun _ => ?_)
      · skip
        exact le_ret (by first | rfl | (simp only [EN, topic_Shared_out]; done) | (simp only [EN, topic_Shared_out]; rfl))
      · skip
        refine le_call (good := good) (fun y => ⟨y, rfl⟩) topic_Filter_inj (topic_Filter_ok r1.2.1) (fun r3 _ => ?_)
        refine le_cond rfl (fun _ => ?_) (fun _ => ?_)
        · skip
          exact le_ret (by first | rfl | (simp only [EN, topic_Shared_out]; done) | (simp only [EN, topic_Shared_out]; rfl))
        · skip
          refine le_call (good := good) (fun y => ⟨y, rfl⟩) strings_HasPrefix_inj (strings_HasPrefix_ok r1.2.1 ([36, 115, 104, 97, 114, 101, 47] : Str)) (fun r4 _ => ?_)
          refine le_cond rfl (fun _ => ?_) (fun _ => ?_)
          · skip
            exact le_ret (by first | rfl | (simp only [EN, topic_Shared_out]; done) | (simp only [EN, topic_Shared_out]; rfl))
          · skip
            exact le_ret (by first | rfl | (simp only [EN, topic_Shared_out]; done) | (simp only [EN, topic_Shared_out]; rfl))
def C54 (Γ : Fun) (γ60 : Gm (Str × Str × Bool)) (γ61 : Gm (Bool)) (γ62 : Gm (Bool)) : CFun := updC (updC (updC (bindC Γ) 60 topic_Shared_out γ60) 61 topic_Filter_out γ61) 62 strings_HasPrefix_out γ62
theorem T54 (Γ : Fun) (γ60 : Gm (Str × Str × Bool)) (γ61 : Gm (Bool)) (γ62 : Gm (Bool)) (Λ2 J : Lam) (p0 : Str) : bodyC SE (C54 Γ γ60 γ61 γ62) Λ2 J 54 [.d (.str p0)] [] [] =
  γ60 [.d (.str p0)] [] [] fun r0 =>
  cond r0.2.2 (
   (some (.ret [.d (.bool true), .d (.bool true)] [] []))) (
  γ61 [.d (.str p0)] [] [] fun r1 =>
  cond r1 (
   γ62 [.d (.str p0), .d (.str ([36, 115, 104, 97, 114, 101, 47] : Str))] [] [] fun r2 =>
   (some (.ret [.d (.bool (!r2)), .d (.bool false)] [] []))) (
  (some (.ret [.d (.bool false), .d (.bool false)] [] [])))) := by kernel_rfl
abbrev X54 : CFun := C54 (callG SE good) (callT SE good 60 topic_Shared_out) (callT SE good 61 topic_Filter_out) (callT SE good 62 strings_HasPrefix_out)
theorem Cr54 : C54 (callG SE good) (callT SE good 60 topic_Shared_out) (callT SE good 61 topic_Filter_out) (callT SE good 62 strings_HasPrefix_out) = bindC (callG SE good) := by unfold C54; rw [updC_real (fun _ h => h), updC_real (fun _ h => h), updC_real (fun _ h => h)]
theorem packet_wanted_ok (p0 : Str) : Le (Option.map packet_wanted_out (packet_wanted p0)) (callW SE 54 [.d (.str p0)] [] []) := by
  refine le_bodyC Cr54 rfl ?_
  refine Le.trans ?_ (le_of_eq (T54 _ _ _ _ _ _  p0).symm)
  unfold packet_wanted
  refine le_call (good := good) (fun y => ⟨y, rfl⟩) topic_Shared_inj (topic_Shared_ok p0) (fun r0 _ => ?_)
  refine le_cond rfl (fun _ => ?_) (fun _ => ?_)
  · skip
    exact le_ret (by first | rfl | (simp only [EN, packet_wanted_out]; done) | (simp only [EN, packet_wanted_out]; rfl))
  · skip
    refine le_call (good := good) (fun y => ⟨y, rfl⟩) topic_Filter_inj (topic_Filter_ok p0) (fun r1 _ => ?_)
    refine le_cond rfl (fun _ => ?_) (fun _ => ?_)
    · skip
      refine le_call (good := good) (fun y => ⟨y, rfl⟩) strings_HasPrefix_inj (strings_HasPrefix_ok p0 ([36, 115, 104, 97, 114, 101, 47] : Str)) (fun r2 _ => ?_)
      exact le_ret (by first | rfl | (simp only [EN, packet_wanted_out]; done) | (simp only [EN, packet_wanted_out]; rfl))
    · skip
      exact le_ret (by first | rfl | (simp only [EN, packet_wanted_out]; done) | (simp only [EN, packet_wanted_out]; rfl))
def C41 (Γ : Fun) (γ53 : Gm (Int)) (γ54 : Gm (Bool × Bool)) (γ34 : Gm (Bool)) : CFun := updC (updC (updC (bindC Γ) 53 packet_counted_out γ53) 54 packet_wanted_out γ54) 34 packet_is_out γ34
def R41_5 (C : CFun) (Λ2 J : Lam) (a0 : (List (List D))) (a1 : Int) (a2 : Int) : Res := lab SE C Λ2 J 41 0 [1, 1, 0, 1, 0] (stoOf [(18, .d (.sl api_Sub.ks a0)), (19, .d (.int .i64 a1)), (20, .d (.int .i64 a2))] [] [] [] [])
theorem T41 (Γ : Fun) (γ53 : Gm (Int)) (γ54 : Gm (Bool × Bool)) (γ34 : Gm (Bool)) (Λ2 J : Lam) (p0 : api_Packet) : bodyC SE (C41 Γ γ53 γ54 γ34) Λ2 J 41 [api_Packet.av p0] [] [] =
  γ53 [.d (.int .i64 p0.ID), .d (.int .i64 (List.length (List.map api_Sub.enc p0.Subs) : Int))] [] [] fun r0 =>
  cond (r0 != 0) (
   (some (.ret [.d (.int .i64 r0)] [] []))) (
  R41_5 (C41 Γ γ53 γ54 γ34) Λ2 J (List.map api_Sub.enc p0.Subs) (List.length (List.map api_Sub.enc p0.Subs) : Int) 0) := by kernel_rfl
theorem T41_5 (Γ : Fun) (γ53 : Gm (Int)) (γ54 : Gm (Bool × Bool)) (γ34 : Gm (Bool)) (Λ2 J : Lam) (x18 : (List api_Sub)) (x19 : Int) (x20 : Int) : labU SE (C41 Γ γ53 γ54 γ34) Λ2 J 41 0 [1, 1, 0, 1, 0] (stoOf [(18, .d (.sl api_Sub.ks (List.map api_Sub.enc x18))), (19, .d (.int .i64 x19)), (20, .d (.int .i64 x20))] [] [] [] []) =
  cond (decide (x20 < x19)) (
   cond (decide (0 ≤ x20) && decide (x20 < (List.length (List.map api_Sub.enc x18) : Int))) (
    γ54 [.d (.str (dStr (cellAt (elemAt (List.map api_Sub.enc x18) (Int.toNat x20)) 0)))] [] [] fun r1 =>
    cond (!r1.1) (
     (some (.ret [.d (.int .i64 13)] [] []))) (
    γ34 [.d (.int .i64 (dInt (cellAt (elemAt (List.map api_Sub.enc x18) (Int.toNat x20)) 1))), .d (.int .i64 0), .d (.int .i64 2)] [] [] fun r2 =>
    cond (!r2) (
     (some (.ret [.d (.int .i64 14)] [] []))) (
    cond (dBool (cellAt (elemAt (List.map api_Sub.enc x18) (Int.toNat x20)) 2)) (
     cond r1.2 (
      (some (.ret [.d (.int .i64 28)] [] []))) (
     R41_5 (C41 Γ γ53 γ54 γ34) Λ2 J (List.map api_Sub.enc x18) x19 (IntKind.wrap .i64 (x20 + 1)))) (
    R41_5 (C41 Γ γ53 γ54 γ34) Λ2 J (List.map api_Sub.enc x18) x19 (IntKind.wrap .i64 (x20 + 1)))))) none) (
  (some (.ret [.d (.int .i64 0)] [] []))) := by kernel_rfl
abbrev X41 : CFun := C41 (callG SE good) (callT SE good 53 packet_counted_out) (callT SE good 54 packet_wanted_out) (callT SE good 34 packet_is_out)
theorem Cr41 : C41 (callG SE good) (callT SE good 53 packet_counted_out) (callT SE good 54 packet_wanted_out) (callT SE good 34 packet_is_out) = bindC (callG SE good) := by unfold C41; rw [updC_real (fun _ h => h), updC_real (fun _ h => h), updC_real (fun _ h => h)]
noncomputable abbrev Q41_5 (a0 : (List (List D))) (a1 : Int) (a2 : Int) : Res := R41_5 X41 (lam2 SE (callG SE good) (SE.hl 41) (SE.hr 41)) (J0 SE X41) a0 a1 a2
theorem packet_subscribe_l5_ok : ∀ (fu : Nat) (x18 : (List api_Sub)) (x19 : Int) (x20 : Int), Le (Option.map packet_subscribe_out (packet_subscribe_l5 fu x18 x19 x20)) (Q41_5 (List.map api_Sub.enc x18) x19 x20) := by
  intro fu
  induction fu with
  | zero => intros; exact le_none
  | succ fu ih =>
    intro x18 x19 x20
    refine Le.trans ?_ (le_of_eq ((lab_realC Cr41).trans (T41_5 _ _ _ _ _ _  x18 x19 x20)).symm)
    unfold packet_subscribe_l5
    refine le_cond rfl (fun _ => ?_) (fun _ => ?_)
    · skip
      refine le_cond (by simp only [EN]) (fun _ => ?_) (fun _ => le_none)
      refine le_call (good := good) (fun y => ⟨y, rfl⟩) packet_wanted_inj (by first | (simp only [EN]; exact packet_wanted_ok ((List.getD x18 (Int.toNat x20) default).Filter)) | exact packet_wanted_ok ((List.getD x18 (Int.toNat x20) default).Filter)) (fun r1 _ => ?_)
      refine le_cond rfl (fun _ => ?_) (fun _ => ?_)
      · skip
        exact le_ret (by first | rfl | (simp only [EN, packet_subscribe_out]; done) | (simp only [EN, packet_subscribe_out]; rfl))
      · skip
        refine le_call (good := good) (fun y => ⟨y, rfl⟩) packet_is_inj (by first | (simp only [EN]; exact packet_is_ok ((List.getD x18 (Int.toNat x20) default).Level) 0 2) | exact packet_is_ok ((List.getD x18 (Int.toNat x20) default).Level) 0 2) (fun r2 _ => ?_)
        refine le_cond rfl (fun _ => ?_) (fun _ => ?_)
        · skip
          exact le_ret (by first | rfl | (simp only [EN, packet_subscribe_out]; done) | (simp only [EN, packet_subscribe_out]; rfl))
        · skip
          refine le_cond (by simp only [EN]) (fun _ => ?_) (fun _ => ?_)
          · skip
            refine le_cond rfl (fun _ => ?_) (fun _ => ?_)
            · skip
              exact le_ret (by first | rfl | (simp only [EN, packet_subscribe_out]; done) | (simp only [EN, packet_subscribe_out]; rfl))
            · skip
              exact ih x18 x19 (IntKind.wrap .i64 (x20 + 1))
          · skip
            exact ih x18 x19 (IntKind.wrap .i64 (x20 + 1))
    · skip
      exact le_ret (by first | rfl | (simp only [EN, packet_subscribe_out]; done) | (simp only [EN, packet_subscribe_out]; rfl))
theorem packet_subscribe_ok (p0 : api_Packet) : Le (Option.map packet_subscribe_out (packet_subscribe p0)) (callW SE 41 [api_Packet.av p0] [] []) := by
  refine le_bodyC Cr41 rfl ?_
  refine Le.trans ?_ (le_of_eq (T41 _ _ _ _ _ _  p0).symm)
  unfold packet_subscribe
  refine le_call (good := good) (fun y => ⟨y, rfl⟩) packet_counted_inj (by first | (simp only [EN]; exact packet_counted_ok p0.ID (List.length p0.Subs : Int)) | exact packet_counted_ok p0.ID (List.length p0.Subs : Int)) (fun r0 _ => ?_)
  refine le_cond rfl (fun _ => ?_) (fun _ => ?_)
  · skip
    exact le_ret (by first | rfl | (simp only [EN, packet_subscribe_out]; done) | (simp only [EN, packet_subscribe_out]; rfl))
  · skip
    first | (simp only [EN]; exact packet_subscribe_l5_ok fuel p0.Subs (List.length p0.Subs : Int) 0) | exact packet_subscribe_l5_ok fuel p0.Subs (List.length p0.Subs : Int) 0
def C42 (Γ : Fun) (γ53 : Gm (Int)) (γ38 : Gm (Bool)) : CFun := updC (updC (bindC Γ) 53 packet_counted_out γ53) 38 packet_code_out γ38
def R42_5 (C : CFun) (Λ2 J : Lam) (a0 : (List (List D))) (a1 : Int) (a2 : Int) : Res := lab SE C Λ2 J 42 0 [1, 1, 0, 1, 0] (stoOf [(16, .d (.sl [.int .i64] a0)), (17, .d (.int .i64 a1)), (18, .d (.int .i64 a2))] [] [] [] [])
theorem T42 (Γ : Fun) (γ53 : Gm (Int)) (γ38 : Gm (Bool)) (Λ2 J : Lam) (p0 : api_Packet) : bodyC SE (C42 Γ γ53 γ38) Λ2 J 42 [api_Packet.av p0] [] [] =
  γ53 [.d (.int .i64 p0.ID), .d (.int .i64 (List.length (List.map (encI .i64) p0.Codes) : Int))] [] [] fun r0 =>
  cond (r0 != 0) (
   (some (.ret [.d (.int .i64 r0)] [] []))) (
  R42_5 (C42 Γ γ53 γ38) Λ2 J (List.map (encI .i64) p0.Codes) (List.length (List.map (encI .i64) p0.Codes) : Int) 0) := by kernel_rfl
theorem T42_5 (Γ : Fun) (γ53 : Gm (Int)) (γ38 : Gm (Bool)) (Λ2 J : Lam) (x16 : (List Int)) (x17 : Int) (x18 : Int) : labU SE (C42 Γ γ53 γ38) Λ2 J 42 0 [1, 1, 0, 1, 0] (stoOf [(16, .d (.sl [.int .i64] (List.map (encI .i64) x16))), (17, .d (.int .i64 x17)), (18, .d (.int .i64 x18))] [] [] [] []) =
  cond (decide (x18 < x17)) (
   cond (decide (0 ≤ x18) && decide (x18 < (List.length (List.map (encI .i64) x16) : Int))) (
    γ38 [.d (.int .i64 (dInt (cellAt (elemAt (List.map (encI .i64) x16) (Int.toNat x18)) 0)))] [] [] fun r1 =>
    cond (!r1) (
     (some (.ret [.d (.int .i64 1)] [] []))) (
    R42_5 (C42 Γ γ53 γ38) Λ2 J (List.map (encI .i64) x16) x17 (IntKind.wrap .i64 (x18 + 1)))) none) (
  (some (.ret [.d (.int .i64 0)] [] []))) := by kernel_rfl
abbrev X42 : CFun := C42 (callG SE good) (callT SE good 53 packet_counted_out) (callT SE good 38 packet_code_out)
theorem Cr42 : C42 (callG SE good) (callT SE good 53 packet_counted_out) (callT SE good 38 packet_code_out) = bindC (callG SE good) := by unfold C42; rw [updC_real (fun _ h => h), updC_real (fun _ h => h)]
noncomputable abbrev Q42_5 (a0 : (List (List D))) (a1 : Int) (a2 : Int) : Res := R42_5 X42 (lam2 SE (callG SE good) (SE.hl 42) (SE.hr 42)) (J0 SE X42) a0 a1 a2
theorem packet_codes_l5_ok : ∀ (fu : Nat) (x16 : (List Int)) (x17 : Int) (x18 : Int), Le (Option.map packet_codes_out (packet_codes_l5 fu x16 x17 x18)) (Q42_5 (List.map (encI .i64) x16) x17 x18) := by
  intro fu
  induction fu with
  | zero => intros; exact le_none
  | succ fu ih =>
    intro x16 x17 x18
    refine Le.trans ?_ (le_of_eq ((lab_realC Cr42).trans (T42_5 _ _ _ _ _  x16 x17 x18)).symm)
    unfold packet_codes_l5
    refine le_cond rfl (fun _ => ?_) (fun _ => ?_)
    · skip
      refine le_cond (by simp only [EN]) (fun _ => ?_) (fun _ => le_none)
      refine le_call (good := good) (fun y => ⟨y, rfl⟩) packet_code_inj (by first | (simp only [EN]; exact packet_code_ok (List.getD x16 (Int.toNat x18) default)) | exact packet_code_ok (List.getD x16 (Int.toNat x18) default)) (fun r1 _ => ?_)
      refine le_cond rfl (fun _ => ?_) (fun _ => ?_)
      · skip
        exact le_ret (by first | rfl | (simp only [EN, packet_codes_out]; done) | (simp only [EN, packet_codes_out]; rfl))
      · skip
        exact ih x16 x17 (IntKind.wrap .i64 (x18 + 1))
    · skip
      exact le_ret (by first | rfl | (simp only [EN, packet_codes_out]; done) | (simp only [EN, packet_codes_out]; rfl))
theorem packet_codes_ok (p0 : api_Packet) : Le (Option.map packet_codes_out (packet_codes p0)) (callW SE 42 [api_Packet.av p0] [] []) := by
  refine le_bodyC Cr42 rfl ?_
  refine Le.trans ?_ (le_of_eq (T42 _ _ _ _ _  p0).symm)
  unfold packet_codes
  refine le_call (good := good) (fun y => ⟨y, rfl⟩) packet_counted_inj (by first | (simp only [EN]; exact packet_counted_ok p0.ID (List.length p0.Codes : Int)) | exact packet_counted_ok p0.ID (List.length p0.Codes : Int)) (fun r0 _ => ?_)
  refine le_cond rfl (fun _ => ?_) (fun _ => ?_)
  · skip
    exact le_ret (by first | rfl | (simp only [EN, packet_codes_out]; done) | (simp only [EN, packet_codes_out]; rfl))
  · skip
    first | (simp only [EN]; exact packet_codes_l5_ok fuel p0.Codes (List.length p0.Codes : Int) 0) | exact packet_codes_l5_ok fuel p0.Codes (List.length p0.Codes : Int) 0
end Te
end PX
