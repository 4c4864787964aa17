import Derived.Test.YtcfpheihkbkloaaGreatDoorTab
set_option linter.unusedVariables false
set_option linter.unusedSimpArgs false
set_option linter.unusedVariables false
set_option linter.unusedSimpArgs false
set_option maxRecDepth 100000
noncomputable section
namespace PX
open Go
open Md
namespace Te
theorem lC {R : Type} {e : R → Out} {c : Bool} {a b : Option R} {a' b' : Res} (h1 : Le (a.map e) a') (h2 : Le (b.map e) b') : Le ((cond c a b).map e) (cond c a' b') := le_cond rfl (fun _ => h1) (fun _ => h2)
theorem lF {R : Type} {e : R → Out} {c : Bool} {a : Option R} {a' : Res} (h1 : Le (a.map e) a') : Le ((cond c a none).map e) (cond c a' none) := le_cond rfl (fun _ => h1) (fun _ => le_none)
theorem eX {R : Type} {out : R → Out} (y : R) : ∃ x, out x = out y := ⟨y, rfl⟩
def C18 (Γ : Fun)  : CFun := bindC Γ
def R18_4 (C : CFun) (Λ2 J : Lam) (a0 : Int) (a1 : (List D)) : Res := lab SE C Λ2 J 18 0 [1, 1, 0, 1, 0] (stoOf [(1, .ptr 1000000000 0), (3, .d (.int .i64 a0))] [⟨55, (List.map AV.d a1)⟩] [] [] [])
theorem T18 (Γ : Fun)  (Λ2 J : Lam) (p0 : api_Pool) : bodyC SE (C18 Γ) Λ2 J 18 [api_Pool.av p0] [] [] =
 cond (decide ((List.length (List.map (encI .i64) p0.Used) : Int) > 32)) (
 (some (.ret [.d (.int .i64 5)] [] []))) (
 R18_4 (C18 Γ) Λ2 J 0 (api_Pool.enc p0)) := by kernel_rfl
theorem T18_4 (Γ : Fun)  (Λ2 J : Lam) (x3 : Int) (b0 : api_Pool) : labU SE (C18 Γ) Λ2 J 18 0 [1, 1, 0, 1, 0] (stoOf [(1, .ptr 1000000000 0), (3, .d (.int .i64 x3))] [⟨55, (List.map AV.d (api_Pool.enc b0))⟩] [] [] []) =
 cond (decide (x3 < (List.length (List.map (encI .i64) b0.Used) : Int))) (
 cond (decide (0 ≤ x3) && decide (x3 < (List.length (List.map (encI .i64) b0.Used) : Int))) (
  cond (decide ((dInt (cellAt (elemAt (List.map (encI .i64) b0.Used) (Int.toNat x3)) 0)) < 1)) (
  (some (.ret [.d (.int .i64 15)] [] []))) (
  cond (decide (0 ≤ x3) && decide (x3 < (List.length (List.map (encI .i64) b0.Used) : Int))) (
  cond (decide ((dInt (cellAt (elemAt (List.map (encI .i64) b0.Used) (Int.toNat x3)) 0)) > 65535)) (
   (some (.ret [.d (.int .i64 15)] [] []))) (
  cond (decide (x3 > 0)) (
   cond (decide (0 ≤ x3) && decide (x3 < (List.length (List.map (encI .i64) b0.Used) : Int))) (
   cond (decide (0 ≤ (IntKind.wrap .i64 (x3 - 1))) && decide ((IntKind.wrap .i64 (x3 - 1)) < (List.length (List.map (encI .i64) b0.Used) : Int))) (
    cond (decide ((dInt (cellAt (elemAt (List.map (encI .i64) b0.Used) (Int.toNat x3)) 0)) ≤ (dInt (cellAt (elemAt (List.map (encI .i64) b0.Used) (Int.toNat (IntKind.wrap .i64 (x3 - 1)))) 0)))) (
    (some (.ret [.d (.int .i64 15)] [] []))) (
    R18_4 (C18 Γ) Λ2 J (IntKind.wrap .i64 (x3 + 1)) (api_Pool.enc b0))) none) none) (
  R18_4 (C18 Γ) Λ2 J (IntKind.wrap .i64 (x3 + 1)) (api_Pool.enc b0)))) none)) none) (
 cond (decide (b0.Last < 0)) (
 (some (.ret [.d (.int .i64 1)] [] []))) (
 cond (decide (b0.Last > 65535)) (
 (some (.ret [.d (.int .i64 1)] [] []))) (
 (some (.ret [.d (.int .i64 0)] [] []))))) := by kernel_rfl
abbrev X18 : CFun := C18 (callG SE good)
theorem Cr18 : C18 (callG SE good) = bindC (callG SE good) := by unfold C18; rfl
noncomputable abbrev Q18_4 (a0 : Int) (a1 : (List D)) : Res := R18_4 X18 (lam2 SE (callG SE good) (SE.hl 18) (SE.hr 18)) (J0 SE X18) a0 a1
theorem brokerref13_Check_l4_ok : ∀ (fu : Nat) (x3 : Int) (b0 : api_Pool), Le (Option.map brokerref13_Check_out (brokerref13_Check_l4 fu x3 b0)) (Q18_4 x3 (api_Pool.enc b0)) := by
 intro fu
 induction fu with
 | zero => intros; exact le_none
 | succ fu ih =>
  intro x3 b0
  refine Le.trans ?_ (le_of_eq ((lab_realC Cr18).trans (T18_4 _ _ _  x3 b0)).symm)
  unfold brokerref13_Check_l4
  refine le_cond (by simp only [EN]) (fun _ => ?_) (fun _ => ?_)
  ·refine le_cond (by simp only [EN]) (fun _ => ?_) (fun _ => le_none)
   refine le_cond (by simp only [EN]) (fun _ => ?_) (fun _ => ?_)
   ·exact le_ret (by first | rfl | simp only [EN, brokerref13_Check_out] <;> rfl)
   ·refine le_cond (by simp only [EN]) (fun _ => ?_) (fun _ => le_none)
    refine le_cond (by simp only [EN]) (fun _ => ?_) (fun _ => ?_)
    ·exact le_ret (by first | rfl | simp only [EN, brokerref13_Check_out] <;> rfl)
    ·refine lC ?_ ?_
     ·refine le_cond (by simp only [EN]) (fun _ => ?_) (fun _ => le_none)
      refine le_cond (by simp only [EN]) (fun _ => ?_) (fun _ => le_none)
      refine le_cond (by simp only [EN]) (fun _ => ?_) (fun _ => ?_)
      ·exact le_ret (by first | rfl | simp only [EN, brokerref13_Check_out] <;> rfl)
      ·exact ih (IntKind.wrap .i64 (x3 + 1)) b0
     ·exact ih (IntKind.wrap .i64 (x3 + 1)) b0
  ·refine lC ?_ ?_
   ·exact le_ret (by first | rfl | simp only [EN, brokerref13_Check_out] <;> rfl)
   ·refine lC ?_ ?_
    ·exact le_ret (by first | rfl | simp only [EN, brokerref13_Check_out] <;> rfl)
    ·exact le_ret (by first | rfl | simp only [EN, brokerref13_Check_out] <;> rfl)
theorem brokerref13_Check_ok (p0 : api_Pool) : Le (Option.map brokerref13_Check_out (brokerref13_Check p0)) (callW SE 18 [api_Pool.av p0] [] []) := by
 refine le_bodyC Cr18 rfl ?_
 refine Le.trans ?_ (le_of_eq (T18 _ _ _  p0).symm)
 unfold brokerref13_Check
 refine le_cond (by simp only [EN]) (fun _ => ?_) (fun _ => ?_)
 ·exact le_ret (by first | rfl | simp only [EN, brokerref13_Check_out] <;> rfl)
 ·exact brokerref13_Check_l4_ok fuel 0 p0
def C7 (Γ : Fun) (γ18 : Gm (Int)) : CFun := updC (bindC Γ) 18 brokerref13_Check_out γ18
theorem T7 (Γ : Fun) (γ18 : Gm (Int)) (Λ2 J : Lam) (p0 : api_Inbox) : bodyC SE (C7 Γ γ18) Λ2 J 7 [api_Inbox.av p0] [] [] =
 γ18 [api_Pool.av (api_Pool.mk p0.IDs 0)] [] [] fun r0 =>
 (some (.ret [.d (.int .i64 r0)] [] [])) := by kernel_rfl
abbrev X7 : CFun := C7 (callG SE good) (callT SE good 18 brokerref13_Check_out)
theorem Cr7 : C7 (callG SE good) (callT SE good 18 brokerref13_Check_out) = bindC (callG SE good) := by unfold C7; rw [updC_real (fun _ h => h)]
theorem brokerref15_Check_ok (p0 : api_Inbox) : Le (Option.map brokerref15_Check_out (brokerref15_Check p0)) (callW SE 7 [api_Inbox.av p0] [] []) := by
 refine le_bodyC Cr7 rfl ?_
 refine Le.trans ?_ (le_of_eq (T7 _ _ _ _  p0).symm)
 unfold brokerref15_Check
 refine le_call (good := good) eX brokerref13_Check_inj (brokerref13_Check_ok (api_Pool.mk p0.IDs 0)) (fun r0 _ => ?_)
 exact le_ret (by first | rfl | simp only [EN, brokerref15_Check_out] <;> rfl)
def C39 (Γ : Fun)  : CFun := bindC Γ
theorem T39 (Γ : Fun)  (Λ2 J : Lam) (p0 : Int) (p1 : Int) (p2 : Int) : bodyC SE (C39 Γ) Λ2 J 39 [.d (.int .i64 p0), .d (.int .i64 p1), .d (.int .i64 p2)] [] [] =
 cond (decide (p0 ≥ p1)) (
 (some (.ret [.d (.bool (decide (p0 ≤ p2)))] [] []))) (
 (some (.ret [.d (.bool false)] [] []))) := by kernel_rfl
abbrev X39 : CFun := C39 (callG SE good)
theorem Cr39 : C39 (callG SE good) = bindC (callG SE good) := by unfold C39; rfl
theorem packet_is_ok (p0 : Int) (p1 : Int) (p2 : Int) : Le (Option.map packet_is_out (packet_is p0 p1 p2)) (callW SE 39 [.d (.int .i64 p0), .d (.int .i64 p1), .d (.int .i64 p2)] [] []) := by
 refine le_bodyC Cr39 rfl ?_
 refine Le.trans ?_ (le_of_eq (T39 _ _ _  p0 p1 p2).symm)
 unfold packet_is
 refine lC ?_ ?_
 ·exact le_ret (by first | rfl | simp only [EN, packet_is_out] <;> rfl)
 ·exact le_ret (by first | rfl | simp only [EN, packet_is_out] <;> rfl)
def C41 (Γ : Fun)  : CFun := bindC Γ
theorem T41 (Γ : Fun)  (Λ2 J : Lam) (p0 : api_Packet) : bodyC SE (C41 Γ) Λ2 J 41 [api_Packet.av p0] [] [] =
 cond (p0.Kind == 1) (
 (some (.ret [.agg [.d (.int .i64 p0.Kind), .d (.int .i64 0), .d (.bool false), .d (.str ([] : Str)), .d (.str ([] : Str)), .d (.int .i64 0), .d (.bool false), .d (.int .i64 0), .d (.int .i64 0), .d (.str ([] : Str)), .d (.int .i64 0), .d (.sl api_Prop.ks (List.map api_Prop.enc [])), .d (.str p0.Client), .d (.str p0.User), .d (.bool p0.Clean), .d (.int .i64 p0.Keep), .d (.int .i64 p0.Expiry), .d (.int .i64 p0.Window), .d (.bool p0.Will.Set), .d (.int .i64 p0.Will.Delay), .d (.str p0.Will.Message.Topic), .d (.str p0.Will.Message.Payload), .d (.int .i64 p0.Will.Message.Level), .d (.bool p0.Will.Message.Retain), .d (.int .i64 p0.Will.Message.Priority), .d (.int .i64 p0.Will.Message.Expires), .d (.str p0.Will.Message.From), .d (.int .i64 p0.Will.Message.Seq), .d (.sl api_Prop.ks (List.map api_Prop.enc p0.Will.Message.Props)), .d (.bool false), .d (.int .i64 0), .d (.sl api_Sub.ks (List.map api_Sub.enc [])), .d (.sl [.str] (List.map encS [])), .d (.sl [.int .i64] (List.map (encI .i64) []))]] [] []))) (
 cond (p0.Kind == 2) (
 (some (.ret [.agg [.d (.int .i64 p0.Kind), .d (.int .i64 0), .d (.bool false), .d (.str ([] : Str)), .d (.str ([] : Str)), .d (.int .i64 0), .d (.bool false), .d (.int .i64 0), .d (.int .i64 0), .d (.str ([] : Str)), .d (.int .i64 0), .d (.sl api_Prop.ks (List.map api_Prop.enc [])), .d (.str ([] : Str)), .d (.str ([] : Str)), .d (.bool false), .d (.int .i64 0), .d (.int .i64 0), .d (.int .i64 0), .d (.bool false), .d (.int .i64 0), .d (.str ([] : Str)), .d (.str ([] : Str)), .d (.int .i64 0), .d (.bool false), .d (.int .i64 0), .d (.int .i64 0), .d (.str ([] : Str)), .d (.int .i64 0), .d (.sl api_Prop.ks (List.map api_Prop.enc [])), .d (.bool p0.Present), .d (.int .i64 p0.Code), .d (.sl api_Sub.ks (List.map api_Sub.enc [])), .d (.sl [.str] (List.map encS [])), .d (.sl [.int .i64] (List.map (encI .i64) []))]] [] []))) (
 cond (p0.Kind == 3) (
 (some (.ret [.agg [.d (.int .i64 p0.Kind), .d (.int .i64 p0.ID), .d (.bool p0.Dup), .d (.str p0.Message.Topic), .d (.str p0.Message.Payload), .d (.int .i64 p0.Message.Level), .d (.bool p0.Message.Retain), .d (.int .i64 p0.Message.Priority), .d (.int .i64 p0.Message.Expires), .d (.str p0.Message.From), .d (.int .i64 p0.Message.Seq), .d (.sl api_Prop.ks (List.map api_Prop.enc p0.Message.Props)), .d (.str ([] : Str)), .d (.str ([] : Str)), .d (.bool false), .d (.int .i64 0), .d (.int .i64 0), .d (.int .i64 0), .d (.bool false), .d (.int .i64 0), .d (.str ([] : Str)), .d (.str ([] : Str)), .d (.int .i64 0), .d (.bool false), .d (.int .i64 0), .d (.int .i64 0), .d (.str ([] : Str)), .d (.int .i64 0), .d (.sl api_Prop.ks (List.map api_Prop.enc [])), .d (.bool false), .d (.int .i64 0), .d (.sl api_Sub.ks (List.map api_Sub.enc [])), .d (.sl [.str] (List.map encS [])), .d (.sl [.int .i64] (List.map (encI .i64) []))]] [] []))) (
 cond (p0.Kind == 4) (
 (some (.ret [.agg [.d (.int .i64 p0.Kind), .d (.int .i64 p0.ID), .d (.bool false), .d (.str ([] : Str)), .d (.str ([] : Str)), .d (.int .i64 0), .d (.bool false), .d (.int .i64 0), .d (.int .i64 0), .d (.str ([] : Str)), .d (.int .i64 0), .d (.sl api_Prop.ks (List.map api_Prop.enc [])), .d (.str ([] : Str)), .d (.str ([] : Str)), .d (.bool false), .d (.int .i64 0), .d (.int .i64 0), .d (.int .i64 0), .d (.bool false), .d (.int .i64 0), .d (.str ([] : Str)), .d (.str ([] : Str)), .d (.int .i64 0), .d (.bool false), .d (.int .i64 0), .d (.int .i64 0), .d (.str ([] : Str)), .d (.int .i64 0), .d (.sl api_Prop.ks (List.map api_Prop.enc [])), .d (.bool false), .d (.int .i64 0), .d (.sl api_Sub.ks (List.map api_Sub.enc [])), .d (.sl [.str] (List.map encS [])), .d (.sl [.int .i64] (List.map (encI .i64) []))]] [] []))) (
 cond (p0.Kind == 5) (
 (some (.ret [.agg [.d (.int .i64 p0.Kind), .d (.int .i64 p0.ID), .d (.bool false), .d (.str ([] : Str)), .d (.str ([] : Str)), .d (.int .i64 0), .d (.bool false), .d (.int .i64 0), .d (.int .i64 0), .d (.str ([] : Str)), .d (.int .i64 0), .d (.sl api_Prop.ks (List.map api_Prop.enc [])), .d (.str ([] : Str)), .d (.str ([] : Str)), .d (.bool false), .d (.int .i64 0), .d (.int .i64 0), .d (.int .i64 0), .d (.bool false), .d (.int .i64 0), .d (.str ([] : Str)), .d (.str ([] : Str)), .d (.int .i64 0), .d (.bool false), .d (.int .i64 0), .d (.int .i64 0), .d (.str ([] : Str)), .d (.int .i64 0), .d (.sl api_Prop.ks (List.map api_Prop.enc [])), .d (.bool false), .d (.int .i64 0), .d (.sl api_Sub.ks (List.map api_Sub.enc [])), .d (.sl [.str] (List.map encS [])), .d (.sl [.int .i64] (List.map (encI .i64) []))]] [] []))) (
 cond (p0.Kind == 6) (
 (some (.ret [.agg [.d (.int .i64 p0.Kind), .d (.int .i64 p0.ID), .d (.bool false), .d (.str ([] : Str)), .d (.str ([] : Str)), .d (.int .i64 0), .d (.bool false), .d (.int .i64 0), .d (.int .i64 0), .d (.str ([] : Str)), .d (.int .i64 0), .d (.sl api_Prop.ks (List.map api_Prop.enc [])), .d (.str ([] : Str)), .d (.str ([] : Str)), .d (.bool false), .d (.int .i64 0), .d (.int .i64 0), .d (.int .i64 0), .d (.bool false), .d (.int .i64 0), .d (.str ([] : Str)), .d (.str ([] : Str)), .d (.int .i64 0), .d (.bool false), .d (.int .i64 0), .d (.int .i64 0), .d (.str ([] : Str)), .d (.int .i64 0), .d (.sl api_Prop.ks (List.map api_Prop.enc [])), .d (.bool false), .d (.int .i64 0), .d (.sl api_Sub.ks (List.map api_Sub.enc [])), .d (.sl [.str] (List.map encS [])), .d (.sl [.int .i64] (List.map (encI .i64) []))]] [] []))) (
 cond (p0.Kind == 7) (
 (some (.ret [.agg [.d (.int .i64 p0.Kind), .d (.int .i64 p0.ID), .d (.bool false), .d (.str ([] : Str)), .d (.str ([] : Str)), .d (.int .i64 0), .d (.bool false), .d (.int .i64 0), .d (.int .i64 0), .d (.str ([] : Str)), .d (.int .i64 0), .d (.sl api_Prop.ks (List.map api_Prop.enc [])), .d (.str ([] : Str)), .d (.str ([] : Str)), .d (.bool false), .d (.int .i64 0), .d (.int .i64 0), .d (.int .i64 0), .d (.bool false), .d (.int .i64 0), .d (.str ([] : Str)), .d (.str ([] : Str)), .d (.int .i64 0), .d (.bool false), .d (.int .i64 0), .d (.int .i64 0), .d (.str ([] : Str)), .d (.int .i64 0), .d (.sl api_Prop.ks (List.map api_Prop.enc [])), .d (.bool false), .d (.int .i64 0), .d (.sl api_Sub.ks (List.map api_Sub.enc [])), .d (.sl [.str] (List.map encS [])), .d (.sl [.int .i64] (List.map (encI .i64) []))]] [] []))) (
 cond (p0.Kind == 8) (
 (some (.ret [.agg [.d (.int .i64 p0.Kind), .d (.int .i64 p0.ID), .d (.bool false), .d (.str ([] : Str)), .d (.str ([] : Str)), .d (.int .i64 0), .d (.bool false), .d (.int .i64 0), .d (.int .i64 0), .d (.str ([] : Str)), .d (.int .i64 0), .d (.sl api_Prop.ks (List.map api_Prop.enc [])), .d (.str ([] : Str)), .d (.str ([] : Str)), .d (.bool false), .d (.int .i64 0), .d (.int .i64 0), .d (.int .i64 0), .d (.bool false), .d (.int .i64 0), .d (.str ([] : Str)), .d (.str ([] : Str)), .d (.int .i64 0), .d (.bool false), .d (.int .i64 0), .d (.int .i64 0), .d (.str ([] : Str)), .d (.int .i64 0), .d (.sl api_Prop.ks (List.map api_Prop.enc [])), .d (.bool false), .d (.int .i64 0), .d (.sl api_Sub.ks (List.map api_Sub.enc p0.Subs)), .d (.sl [.str] (List.map encS [])), .d (.sl [.int .i64] (List.map (encI .i64) []))]] [] []))) (
 cond (p0.Kind == 9) (
 (some (.ret [.agg [.d (.int .i64 p0.Kind), .d (.int .i64 p0.ID), .d (.bool false), .d (.str ([] : Str)), .d (.str ([] : Str)), .d (.int .i64 0), .d (.bool false), .d (.int .i64 0), .d (.int .i64 0), .d (.str ([] : Str)), .d (.int .i64 0), .d (.sl api_Prop.ks (List.map api_Prop.enc [])), .d (.str ([] : Str)), .d (.str ([] : Str)), .d (.bool false), .d (.int .i64 0), .d (.int .i64 0), .d (.int .i64 0), .d (.bool false), .d (.int .i64 0), .d (.str ([] : Str)), .d (.str ([] : Str)), .d (.int .i64 0), .d (.bool false), .d (.int .i64 0), .d (.int .i64 0), .d (.str ([] : Str)), .d (.int .i64 0), .d (.sl api_Prop.ks (List.map api_Prop.enc [])), .d (.bool false), .d (.int .i64 0), .d (.sl api_Sub.ks (List.map api_Sub.enc [])), .d (.sl [.str] (List.map encS [])), .d (.sl [.int .i64] (List.map (encI .i64) p0.Codes))]] [] []))) (
 cond (p0.Kind == 11) (
 (some (.ret [.agg [.d (.int .i64 p0.Kind), .d (.int .i64 p0.ID), .d (.bool false), .d (.str ([] : Str)), .d (.str ([] : Str)), .d (.int .i64 0), .d (.bool false), .d (.int .i64 0), .d (.int .i64 0), .d (.str ([] : Str)), .d (.int .i64 0), .d (.sl api_Prop.ks (List.map api_Prop.enc [])), .d (.str ([] : Str)), .d (.str ([] : Str)), .d (.bool false), .d (.int .i64 0), .d (.int .i64 0), .d (.int .i64 0), .d (.bool false), .d (.int .i64 0), .d (.str ([] : Str)), .d (.str ([] : Str)), .d (.int .i64 0), .d (.bool false), .d (.int .i64 0), .d (.int .i64 0), .d (.str ([] : Str)), .d (.int .i64 0), .d (.sl api_Prop.ks (List.map api_Prop.enc [])), .d (.bool false), .d (.int .i64 0), .d (.sl api_Sub.ks (List.map api_Sub.enc [])), .d (.sl [.str] (List.map encS [])), .d (.sl [.int .i64] (List.map (encI .i64) p0.Codes))]] [] []))) (
 cond (p0.Kind == 10) (
 (some (.ret [.agg [.d (.int .i64 p0.Kind), .d (.int .i64 p0.ID), .d (.bool false), .d (.str ([] : Str)), .d (.str ([] : Str)), .d (.int .i64 0), .d (.bool false), .d (.int .i64 0), .d (.int .i64 0), .d (.str ([] : Str)), .d (.int .i64 0), .d (.sl api_Prop.ks (List.map api_Prop.enc [])), .d (.str ([] : Str)), .d (.str ([] : Str)), .d (.bool false), .d (.int .i64 0), .d (.int .i64 0), .d (.int .i64 0), .d (.bool false), .d (.int .i64 0), .d (.str ([] : Str)), .d (.str ([] : Str)), .d (.int .i64 0), .d (.bool false), .d (.int .i64 0), .d (.int .i64 0), .d (.str ([] : Str)), .d (.int .i64 0), .d (.sl api_Prop.ks (List.map api_Prop.enc [])), .d (.bool false), .d (.int .i64 0), .d (.sl api_Sub.ks (List.map api_Sub.enc [])), .d (.sl [.str] (List.map encS p0.Filters)), .d (.sl [.int .i64] (List.map (encI .i64) []))]] [] []))) (
 cond (p0.Kind == 14) (
 (some (.ret [.agg [.d (.int .i64 p0.Kind), .d (.int .i64 0), .d (.bool false), .d (.str ([] : Str)), .d (.str ([] : Str)), .d (.int .i64 0), .d (.bool false), .d (.int .i64 0), .d (.int .i64 0), .d (.str ([] : Str)), .d (.int .i64 0), .d (.sl api_Prop.ks (List.map api_Prop.enc [])), .d (.str ([] : Str)), .d (.str ([] : Str)), .d (.bool false), .d (.int .i64 0), .d (.int .i64 0), .d (.int .i64 0), .d (.bool false), .d (.int .i64 0), .d (.str ([] : Str)), .d (.str ([] : Str)), .d (.int .i64 0), .d (.bool false), .d (.int .i64 0), .d (.int .i64 0), .d (.str ([] : Str)), .d (.int .i64 0), .d (.sl api_Prop.ks (List.map api_Prop.enc [])), .d (.bool false), .d (.int .i64 p0.Code), .d (.sl api_Sub.ks (List.map api_Sub.enc [])), .d (.sl [.str] (List.map encS [])), .d (.sl [.int .i64] (List.map (encI .i64) []))]] [] []))) (
 (some (.ret [.agg [.d (.int .i64 p0.Kind), .d (.int .i64 0), .d (.bool false), .d (.str ([] : Str)), .d (.str ([] : Str)), .d (.int .i64 0), .d (.bool false), .d (.int .i64 0), .d (.int .i64 0), .d (.str ([] : Str)), .d (.int .i64 0), .d (.sl api_Prop.ks (List.map api_Prop.enc [])), .d (.str ([] : Str)), .d (.str ([] : Str)), .d (.bool false), .d (.int .i64 0), .d (.int .i64 0), .d (.int .i64 0), .d (.bool false), .d (.int .i64 0), .d (.str ([] : Str)), .d (.str ([] : Str)), .d (.int .i64 0), .d (.bool false), .d (.int .i64 0), .d (.int .i64 0), .d (.str ([] : Str)), .d (.int .i64 0), .d (.sl api_Prop.ks (List.map api_Prop.enc [])), .d (.bool false), .d (.int .i64 0), .d (.sl api_Sub.ks (List.map api_Sub.enc [])), .d (.sl [.str] (List.map encS [])), .d (.sl [.int .i64] (List.map (encI .i64) []))]] [] [])))))))))))))) := by kernel_rfl
abbrev X41 : CFun := C41 (callG SE good)
theorem Cr41 : C41 (callG SE good) = bindC (callG SE good) := by unfold C41; rfl
theorem packet_used_ok (p0 : api_Packet) : Le (Option.map packet_used_out (packet_used p0)) (callW SE 41 [api_Packet.av p0] [] []) := by
 refine le_bodyC Cr41 rfl ?_
 refine Le.trans ?_ (le_of_eq (T41 _ _ _  p0).symm)
 unfold packet_used
 refine lC ?_ ?_
 ·exact le_ret (by first | rfl | simp only [EN, packet_used_out] <;> rfl)
 ·refine lC ?_ ?_
  ·exact le_ret (by first | rfl | simp only [EN, packet_used_out] <;> rfl)
  ·refine lC ?_ ?_
   ·exact le_ret (by first | rfl | simp only [EN, packet_used_out] <;> rfl)
   ·refine lC ?_ ?_
    ·exact le_ret (by first | rfl | simp only [EN, packet_used_out] <;> rfl)
    ·refine lC ?_ ?_
     ·exact le_ret (by first | rfl | simp only [EN, packet_used_out] <;> rfl)
     ·refine lC ?_ ?_
      ·exact le_ret (by first | rfl | simp only [EN, packet_used_out] <;> rfl)
      ·refine lC ?_ ?_
       ·exact le_ret (by first | rfl | simp only [EN, packet_used_out] <;> rfl)
       ·refine lC ?_ ?_
        ·exact le_ret (by first | rfl | simp only [EN, packet_used_out] <;> rfl)
        ·refine lC ?_ ?_
         ·exact le_ret (by first | rfl | simp only [EN, packet_used_out] <;> rfl)
         ·refine lC ?_ ?_
          ·exact le_ret (by first | rfl | simp only [EN, packet_used_out] <;> rfl)
          ·refine lC ?_ ?_
           ·exact le_ret (by first | rfl | simp only [EN, packet_used_out] <;> rfl)
           ·refine lC ?_ ?_
            ·exact le_ret (by first | rfl | simp only [EN, packet_used_out] <;> rfl)
            ·exact le_ret (by first | rfl | simp only [EN, packet_used_out] <;> rfl)
def C64 (Γ : Fun)  : CFun := bindC Γ
theorem T64 (Γ : Fun)  (Λ2 J : Lam) (p0 : api_Packet) : bodyC SE (C64 Γ) Λ2 J 64 [api_Packet.av p0] [] [] =
 (some (.ret [packet_plain.av (packet_plain.mk p0.Kind p0.ID p0.Keep p0.Expiry p0.Window p0.Code p0.Will.Delay p0.Dup p0.Clean p0.Present p0.Will.Set p0.Client p0.User)] [] [])) := by kernel_rfl
abbrev X64 : CFun := C64 (callG SE good)
theorem Cr64 : C64 (callG SE good) = bindC (callG SE good) := by unfold C64; rfl
theorem packet_plainOf_ok (p0 : api_Packet) : Le (Option.map packet_plainOf_out (packet_plainOf p0)) (callW SE 64 [api_Packet.av p0] [] []) := by
 refine le_bodyC Cr64 rfl ?_
 refine Le.trans ?_ (le_of_eq (T64 _ _ _  p0).symm)
 unfold packet_plainOf
 exact le_ret (by first | rfl | simp only [EN, packet_plainOf_out] <;> rfl)
def C65 (Γ : Fun)  : CFun := bindC Γ
def R65_4 (C : CFun) (Λ2 J : Lam) (a0 : (List (List D))) (a1 : Int) (a2 : Int) (a3 : (List D)) : Res := lab SE C Λ2 J 65 0 [1, 1, 0, 1, 0] (stoOf [(3, .ptr 1000000000 0), (71, .d (.sl api_Prop.ks a0)), (72, .d (.int .i64 a1)), (73, .d (.int .i64 a2))] [⟨27, (List.map AV.d a3)⟩] [] [] [])
def R65_3 (C : CFun) (Λ2 J : Lam) (a0 : (List D)) (a1 : (List D)) : Res := lab SE C Λ2 J 65 0 [1, 1, 0, 0] (stoOf [(2, .ptr 1000000000 0), (3, .ptr 1000000001 0)] [⟨27, (List.map AV.d a0)⟩, ⟨27, (List.map AV.d a1)⟩] [] [] [])
theorem T65 (Γ : Fun)  (Λ2 J : Lam) (p0 : api_Message) (p1 : api_Message) : bodyC SE (C65 Γ) Λ2 J 65 [api_Message.av p0, api_Message.av p1] [] [] =
 cond (!(p0.Topic == p1.Topic)) (
 (some (.ret [.d (.bool false)] [] []))) (
 cond (!(p0.Payload == p1.Payload)) (
 (some (.ret [.d (.bool false)] [] []))) (
 cond (p0.Level != p1.Level) (
 (some (.ret [.d (.bool false)] [] []))) (
 cond (p0.Retain != p1.Retain) (
 (some (.ret [.d (.bool false)] [] []))) (
 cond (p0.Priority != p1.Priority) (
 (some (.ret [.d (.bool false)] [] []))) (
 cond (p0.Expires != p1.Expires) (
 (some (.ret [.d (.bool false)] [] []))) (
 cond (!(p0.From == p1.From)) (
 (some (.ret [.d (.bool false)] [] []))) (
 cond (p0.Seq != p1.Seq) (
 (some (.ret [.d (.bool false)] [] []))) (
 cond ((List.length (List.map api_Prop.enc p0.Props) : Int) != (List.length (List.map api_Prop.enc p1.Props) : Int)) (
 (some (.ret [.d (.bool false)] [] []))) (
 R65_3 (C65 Γ) Λ2 J (api_Message.enc p0) (api_Message.enc p1)))))))))) := by kernel_rfl
theorem T65_4 (Γ : Fun)  (Λ2 J : Lam) (x71 : (List api_Prop)) (x72 : Int) (x73 : Int) (b0 : api_Message) : labU SE (C65 Γ) Λ2 J 65 0 [1, 1, 0, 1, 0] (stoOf [(3, .ptr 1000000000 0), (71, .d (.sl api_Prop.ks (List.map api_Prop.enc x71))), (72, .d (.int .i64 x72)), (73, .d (.int .i64 x73))] [⟨27, (List.map AV.d (api_Message.enc b0))⟩] [] [] []) =
 cond (decide (x73 < x72)) (
 cond (decide (0 ≤ x73) && decide (x73 < (List.length (List.map api_Prop.enc x71) : Int))) (
  cond (decide (0 ≤ x73) && decide (x73 < (List.length (List.map api_Prop.enc b0.Props) : Int))) (
  cond (!(((dStr (cellAt (elemAt (List.map api_Prop.enc x71) (Int.toNat x73)) 0)) == (dStr (cellAt (elemAt (List.map api_Prop.enc b0.Props) (Int.toNat x73)) 0))) && (((dStr (cellAt (elemAt (List.map api_Prop.enc x71) (Int.toNat x73)) 1)) == (dStr (cellAt (elemAt (List.map api_Prop.enc b0.Props) (Int.toNat x73)) 1))) && true))) (
   (some (.ret [.d (.bool false)] [] []))) (
  R65_4 (C65 Γ) Λ2 J (List.map api_Prop.enc x71) x72 (IntKind.wrap .i64 (x73 + 1)) (api_Message.enc b0))) none) none) (
 (some (.ret [.d (.bool true)] [] []))) := by kernel_rfl
theorem T65_3 (Γ : Fun)  (Λ2 J : Lam) (b0 : api_Message) (b1 : api_Message) : labU SE (C65 Γ) Λ2 J 65 0 [1, 1, 0, 0] (stoOf [(2, .ptr 1000000000 0), (3, .ptr 1000000001 0)] [⟨27, (List.map AV.d (api_Message.enc b0))⟩, ⟨27, (List.map AV.d (api_Message.enc b1))⟩] [] [] []) =
 R65_4 (C65 Γ) Λ2 J (List.map api_Prop.enc b0.Props) (List.length (List.map api_Prop.enc b0.Props) : Int) 0 (api_Message.enc b1) := by kernel_rfl
abbrev X65 : CFun := C65 (callG SE good)
theorem Cr65 : C65 (callG SE good) = bindC (callG SE good) := by unfold C65; rfl
noncomputable abbrev Q65_4 (a0 : (List (List D))) (a1 : Int) (a2 : Int) (a3 : (List D)) : Res := R65_4 X65 (lam2 SE (callG SE good) (SE.hl 65) (SE.hr 65)) (J0 SE X65) a0 a1 a2 a3
noncomputable abbrev Q65_3 (a0 : (List D)) (a1 : (List D)) : Res := R65_3 X65 (lam2 SE (callG SE good) (SE.hl 65) (SE.hr 65)) (J0 SE X65) a0 a1
theorem message_Same_l4_ok : ∀ (fu : Nat) (x71 : (List api_Prop)) (x72 : Int) (x73 : Int) (b0 : api_Message), Le (Option.map message_Same_out (message_Same_l4 fu x71 x72 x73 b0)) (Q65_4 (List.map api_Prop.enc x71) x72 x73 (api_Message.enc b0)) := by
 intro fu
 induction fu with
 | zero => intros; exact le_none
 | succ fu ih =>
  intro x71 x72 x73 b0
  refine Le.trans ?_ (le_of_eq ((lab_realC Cr65).trans (T65_4 _ _ _  x71 x72 x73 b0)).symm)
  unfold message_Same_l4
  refine lC ?_ ?_
  ·refine le_cond (by simp only [EN]) (fun _ => ?_) (fun _ => le_none)
   refine le_cond (by simp only [EN]) (fun _ => ?_) (fun _ => le_none)
   refine le_cond (by simp only [EN]) (fun _ => ?_) (fun _ => ?_)
   ·exact le_ret (by first | rfl | simp only [EN, message_Same_out] <;> rfl)
   ·exact ih x71 x72 (IntKind.wrap .i64 (x73 + 1)) b0
  ·exact le_ret (by first | rfl | simp only [EN, message_Same_out] <;> rfl)
theorem message_Same_j3_ok (b0 : api_Message) (b1 : api_Message) : Le (Option.map message_Same_out (message_Same_j3 b0 b1)) (Q65_3 (api_Message.enc b0) (api_Message.enc b1)) := by
 refine Le.trans ?_ (le_of_eq ((lab_realC Cr65).trans (T65_3 _ _ _  b0 b1)).symm)
 unfold message_Same_j3
 first | (simp only [EN]; exact message_Same_l4_ok fuel b0.Props (List.length b0.Props : Int) 0 b1) | exact message_Same_l4_ok fuel b0.Props (List.length b0.Props : Int) 0 b1
theorem message_Same_ok (p0 : api_Message) (p1 : api_Message) : Le (Option.map message_Same_out (message_Same p0 p1)) (callW SE 65 [api_Message.av p0, api_Message.av p1] [] []) := by
 refine le_bodyC Cr65 rfl ?_
 refine Le.trans ?_ (le_of_eq (T65 _ _ _  p0 p1).symm)
 unfold message_Same
 refine lC ?_ ?_
 ·exact le_ret (by first | rfl | simp only [EN, message_Same_out] <;> rfl)
 ·refine lC ?_ ?_
  ·exact le_ret (by first | rfl | simp only [EN, message_Same_out] <;> rfl)
  ·refine lC ?_ ?_
   ·exact le_ret (by first | rfl | simp only [EN, message_Same_out] <;> rfl)
   ·refine lC ?_ ?_
    ·exact le_ret (by first | rfl | simp only [EN, message_Same_out] <;> rfl)
    ·refine lC ?_ ?_
     ·exact le_ret (by first | rfl | simp only [EN, message_Same_out] <;> rfl)
     ·refine lC ?_ ?_
      ·exact le_ret (by first | rfl | simp only [EN, message_Same_out] <;> rfl)
      ·refine lC ?_ ?_
       ·exact le_ret (by first | rfl | simp only [EN, message_Same_out] <;> rfl)
       ·refine lC ?_ ?_
        ·exact le_ret (by first | rfl | simp only [EN, message_Same_out] <;> rfl)
        ·refine le_cond (by simp only [EN]) (fun _ => ?_) (fun _ => ?_)
         ·exact le_ret (by first | rfl | simp only [EN, message_Same_out] <;> rfl)
         ·exact message_Same_j3_ok p0 p1
def C66 (Γ : Fun)  : CFun := bindC Γ
def R66_4 (C : CFun) (Λ2 J : Lam) (a0 : (List (List D))) (a1 : (List (List D))) (a2 : Int) (a3 : Int) : Res := lab SE C Λ2 J 66 0 [1, 1, 0, 1, 0] (stoOf [(1, .d (.sl api_Sub.ks a0)), (12, .d (.sl api_Sub.ks a1)), (13, .d (.int .i64 a2)), (14, .d (.int .i64 a3))] [] [] [] [])
theorem T66 (Γ : Fun)  (Λ2 J : Lam) (p0 : (List api_Sub)) (p1 : (List api_Sub)) : bodyC SE (C66 Γ) Λ2 J 66 [.d (.sl api_Sub.ks (List.map api_Sub.enc p0)), .d (.sl api_Sub.ks (List.map api_Sub.enc p1))] [] [] =
 cond ((List.length (List.map api_Sub.enc p0) : Int) != (List.length (List.map api_Sub.enc p1) : Int)) (
 (some (.ret [.d (.bool false)] [] []))) (
 R66_4 (C66 Γ) Λ2 J (List.map api_Sub.enc p1) (List.map api_Sub.enc p0) (List.length (List.map api_Sub.enc p0) : Int) 0) := by kernel_rfl
theorem T66_4 (Γ : Fun)  (Λ2 J : Lam) (x1 : (List api_Sub)) (x12 : (List api_Sub)) (x13 : Int) (x14 : Int) : labU SE (C66 Γ) Λ2 J 66 0 [1, 1, 0, 1, 0] (stoOf [(1, .d (.sl api_Sub.ks (List.map api_Sub.enc x1))), (12, .d (.sl api_Sub.ks (List.map api_Sub.enc x12))), (13, .d (.int .i64 x13)), (14, .d (.int .i64 x14))] [] [] [] []) =
 cond (decide (x14 < x13)) (
 cond (decide (0 ≤ x14) && decide (x14 < (List.length (List.map api_Sub.enc x12) : Int))) (
  cond (decide (0 ≤ x14) && decide (x14 < (List.length (List.map api_Sub.enc x1) : Int))) (
  cond (!(((dStr (cellAt (elemAt (List.map api_Sub.enc x12) (Int.toNat x14)) 0)) == (dStr (cellAt (elemAt (List.map api_Sub.enc x1) (Int.toNat x14)) 0))) && (((dInt (cellAt (elemAt (List.map api_Sub.enc x12) (Int.toNat x14)) 1)) == (dInt (cellAt (elemAt (List.map api_Sub.enc x1) (Int.toNat x14)) 1))) && (((dBool (cellAt (elemAt (List.map api_Sub.enc x12) (Int.toNat x14)) 2)) == (dBool (cellAt (elemAt (List.map api_Sub.enc x1) (Int.toNat x14)) 2))) && true)))) (
   (some (.ret [.d (.bool false)] [] []))) (
  R66_4 (C66 Γ) Λ2 J (List.map api_Sub.enc x1) (List.map api_Sub.enc x12) x13 (IntKind.wrap .i64 (x14 + 1)))) none) none) (
 (some (.ret [.d (.bool true)] [] []))) := by kernel_rfl
abbrev X66 : CFun := C66 (callG SE good)
theorem Cr66 : C66 (callG SE good) = bindC (callG SE good) := by unfold C66; rfl
noncomputable abbrev Q66_4 (a0 : (List (List D))) (a1 : (List (List D))) (a2 : Int) (a3 : Int) : Res := R66_4 X66 (lam2 SE (callG SE good) (SE.hl 66) (SE.hr 66)) (J0 SE X66) a0 a1 a2 a3
theorem packet_subs_l4_ok : ∀ (fu : Nat) (x1 : (List api_Sub)) (x12 : (List api_Sub)) (x13 : Int) (x14 : Int), Le (Option.map packet_subs_out (packet_subs_l4 fu x1 x12 x13 x14)) (Q66_4 (List.map api_Sub.enc x1) (List.map api_Sub.enc x12) x13 x14) := by
 intro fu
 induction fu with
 | zero => intros; exact le_none
 | succ fu ih =>
  intro x1 x12 x13 x14
  refine Le.trans ?_ (le_of_eq ((lab_realC Cr66).trans (T66_4 _ _ _  x1 x12 x13 x14)).symm)
  unfold packet_subs_l4
  refine lC ?_ ?_
  ·refine le_cond (by simp only [EN]) (fun _ => ?_) (fun _ => le_none)
   refine le_cond (by simp only [EN]) (fun _ => ?_) (fun _ => le_none)
   refine le_cond (by simp only [EN]) (fun _ => ?_) (fun _ => ?_)
   ·exact le_ret (by first | rfl | simp only [EN, packet_subs_out] <;> rfl)
   ·exact ih x1 x12 x13 (IntKind.wrap .i64 (x14 + 1))
  ·exact le_ret (by first | rfl | simp only [EN, packet_subs_out] <;> rfl)
theorem packet_subs_ok (p0 : (List api_Sub)) (p1 : (List api_Sub)) : Le (Option.map packet_subs_out (packet_subs p0 p1)) (callW SE 66 [.d (.sl api_Sub.ks (List.map api_Sub.enc p0)), .d (.sl api_Sub.ks (List.map api_Sub.enc p1))] [] []) := by
 refine le_bodyC Cr66 rfl ?_
 refine Le.trans ?_ (le_of_eq (T66 _ _ _  p0 p1).symm)
 unfold packet_subs
 refine le_cond (by simp only [EN]) (fun _ => ?_) (fun _ => ?_)
 ·exact le_ret (by first | rfl | simp only [EN, packet_subs_out] <;> rfl)
 ·first | (simp only [EN]; exact packet_subs_l4_ok fuel p1 p0 (List.length p0 : Int) 0) | exact packet_subs_l4_ok fuel p1 p0 (List.length p0 : Int) 0
def C67 (Γ : Fun)  : CFun := bindC Γ
def R67_4 (C : CFun) (Λ2 J : Lam) (a0 : (List (List D))) (a1 : (List (List D))) (a2 : Int) (a3 : Int) : Res := lab SE C Λ2 J 67 0 [1, 1, 0, 1, 0] (stoOf [(1, .d (.sl [.str] a0)), (12, .d (.sl [.str] a1)), (13, .d (.int .i64 a2)), (14, .d (.int .i64 a3))] [] [] [] [])
theorem T67 (Γ : Fun)  (Λ2 J : Lam) (p0 : (List Str)) (p1 : (List Str)) : bodyC SE (C67 Γ) Λ2 J 67 [.d (.sl [.str] (List.map encS p0)), .d (.sl [.str] (List.map encS p1))] [] [] =
 cond ((List.length (List.map encS p0) : Int) != (List.length (List.map encS p1) : Int)) (
 (some (.ret [.d (.bool false)] [] []))) (
 R67_4 (C67 Γ) Λ2 J (List.map encS p1) (List.map encS p0) (List.length (List.map encS p0) : Int) 0) := by kernel_rfl
theorem T67_4 (Γ : Fun)  (Λ2 J : Lam) (x1 : (List Str)) (x12 : (List Str)) (x13 : Int) (x14 : Int) : labU SE (C67 Γ) Λ2 J 67 0 [1, 1, 0, 1, 0] (stoOf [(1, .d (.sl [.str] (List.map encS x1))), (12, .d (.sl [.str] (List.map encS x12))), (13, .d (.int .i64 x13)), (14, .d (.int .i64 x14))] [] [] [] []) =
 cond (decide (x14 < x13)) (
 cond (decide (0 ≤ x14) && decide (x14 < (List.length (List.map encS x12) : Int))) (
  cond (decide (0 ≤ x14) && decide (x14 < (List.length (List.map encS x1) : Int))) (
  cond (!((dStr (cellAt (elemAt (List.map encS x12) (Int.toNat x14)) 0)) == (dStr (cellAt (elemAt (List.map encS x1) (Int.toNat x14)) 0)))) (
   (some (.ret [.d (.bool false)] [] []))) (
  R67_4 (C67 Γ) Λ2 J (List.map encS x1) (List.map encS x12) x13 (IntKind.wrap .i64 (x14 + 1)))) none) none) (
 (some (.ret [.d (.bool true)] [] []))) := by kernel_rfl
abbrev X67 : CFun := C67 (callG SE good)
theorem Cr67 : C67 (callG SE good) = bindC (callG SE good) := by unfold C67; rfl
noncomputable abbrev Q67_4 (a0 : (List (List D))) (a1 : (List (List D))) (a2 : Int) (a3 : Int) : Res := R67_4 X67 (lam2 SE (callG SE good) (SE.hl 67) (SE.hr 67)) (J0 SE X67) a0 a1 a2 a3
theorem packet_texts_l4_ok : ∀ (fu : Nat) (x1 : (List Str)) (x12 : (List Str)) (x13 : Int) (x14 : Int), Le (Option.map packet_texts_out (packet_texts_l4 fu x1 x12 x13 x14)) (Q67_4 (List.map encS x1) (List.map encS x12) x13 x14) := by
 intro fu
 induction fu with
 | zero => intros; exact le_none
 | succ fu ih =>
  intro x1 x12 x13 x14
  refine Le.trans ?_ (le_of_eq ((lab_realC Cr67).trans (T67_4 _ _ _  x1 x12 x13 x14)).symm)
  unfold packet_texts_l4
  refine lC ?_ ?_
  ·refine le_cond (by simp only [EN]) (fun _ => ?_) (fun _ => le_none)
   refine le_cond (by simp only [EN]) (fun _ => ?_) (fun _ => le_none)
   refine le_cond (by simp only [EN]) (fun _ => ?_) (fun _ => ?_)
   ·exact le_ret (by first | rfl | simp only [EN, packet_texts_out] <;> rfl)
   ·exact ih x1 x12 x13 (IntKind.wrap .i64 (x14 + 1))
  ·exact le_ret (by first | rfl | simp only [EN, packet_texts_out] <;> rfl)
theorem packet_texts_ok (p0 : (List Str)) (p1 : (List Str)) : Le (Option.map packet_texts_out (packet_texts p0 p1)) (callW SE 67 [.d (.sl [.str] (List.map encS p0)), .d (.sl [.str] (List.map encS p1))] [] []) := by
 refine le_bodyC Cr67 rfl ?_
 refine Le.trans ?_ (le_of_eq (T67 _ _ _  p0 p1).symm)
 unfold packet_texts
 refine le_cond (by simp only [EN]) (fun _ => ?_) (fun _ => ?_)
 ·exact le_ret (by first | rfl | simp only [EN, packet_texts_out] <;> rfl)
 ·first | (simp only [EN]; exact packet_texts_l4_ok fuel p1 p0 (List.length p0 : Int) 0) | exact packet_texts_l4_ok fuel p1 p0 (List.length p0 : Int) 0
def C68 (Γ : Fun)  : CFun := bindC Γ
def R68_4 (C : CFun) (Λ2 J : Lam) (a0 : (List (List D))) (a1 : (List (List D))) (a2 : Int) (a3 : Int) : Res := lab SE C Λ2 J 68 0 [1, 1, 0, 1, 0] (stoOf [(1, .d (.sl [.int .i64] a0)), (12, .d (.sl [.int .i64] a1)), (13, .d (.int .i64 a2)), (14, .d (.int .i64 a3))] [] [] [] [])
theorem T68 (Γ : Fun)  (Λ2 J : Lam) (p0 : (List Int)) (p1 : (List Int)) : bodyC SE (C68 Γ) Λ2 J 68 [.d (.sl [.int .i64] (List.map (encI .i64) p0)), .d (.sl [.int .i64] (List.map (encI .i64) p1))] [] [] =
 cond ((List.length (List.map (encI .i64) p0) : Int) != (List.length (List.map (encI .i64) p1) : Int)) (
 (some (.ret [.d (.bool false)] [] []))) (
 R68_4 (C68 Γ) Λ2 J (List.map (encI .i64) p1) (List.map (encI .i64) p0) (List.length (List.map (encI .i64) p0) : Int) 0) := by kernel_rfl
theorem T68_4 (Γ : Fun)  (Λ2 J : Lam) (x1 : (List Int)) (x12 : (List Int)) (x13 : Int) (x14 : Int) : labU SE (C68 Γ) Λ2 J 68 0 [1, 1, 0, 1, 0] (stoOf [(1, .d (.sl [.int .i64] (List.map (encI .i64) x1))), (12, .d (.sl [.int .i64] (List.map (encI .i64) x12))), (13, .d (.int .i64 x13)), (14, .d (.int .i64 x14))] [] [] [] []) =
 cond (decide (x14 < x13)) (
 cond (decide (0 ≤ x14) && decide (x14 < (List.length (List.map (encI .i64) x12) : Int))) (
  cond (decide (0 ≤ x14) && decide (x14 < (List.length (List.map (encI .i64) x1) : Int))) (
  cond ((dInt (cellAt (elemAt (List.map (encI .i64) x12) (Int.toNat x14)) 0)) != (dInt (cellAt (elemAt (List.map (encI .i64) x1) (Int.toNat x14)) 0))) (
   (some (.ret [.d (.bool false)] [] []))) (
  R68_4 (C68 Γ) Λ2 J (List.map (encI .i64) x1) (List.map (encI .i64) x12) x13 (IntKind.wrap .i64 (x14 + 1)))) none) none) (
 (some (.ret [.d (.bool true)] [] []))) := by kernel_rfl
abbrev X68 : CFun := C68 (callG SE good)
theorem Cr68 : C68 (callG SE good) = bindC (callG SE good) := by unfold C68; rfl
noncomputable abbrev Q68_4 (a0 : (List (List D))) (a1 : (List (List D))) (a2 : Int) (a3 : Int) : Res := R68_4 X68 (lam2 SE (callG SE good) (SE.hl 68) (SE.hr 68)) (J0 SE X68) a0 a1 a2 a3
theorem packet_numbers_l4_ok : ∀ (fu : Nat) (x1 : (List Int)) (x12 : (List Int)) (x13 : Int) (x14 : Int), Le (Option.map packet_numbers_out (packet_numbers_l4 fu x1 x12 x13 x14)) (Q68_4 (List.map (encI .i64) x1) (List.map (encI .i64) x12) x13 x14) := by
 intro fu
 induction fu with
 | zero => intros; exact le_none
 | succ fu ih =>
  intro x1 x12 x13 x14
  refine Le.trans ?_ (le_of_eq ((lab_realC Cr68).trans (T68_4 _ _ _  x1 x12 x13 x14)).symm)
  unfold packet_numbers_l4
  refine lC ?_ ?_
  ·refine le_cond (by simp only [EN]) (fun _ => ?_) (fun _ => le_none)
   refine le_cond (by simp only [EN]) (fun _ => ?_) (fun _ => le_none)
   refine le_cond (by simp only [EN]) (fun _ => ?_) (fun _ => ?_)
   ·exact le_ret (by first | rfl | simp only [EN, packet_numbers_out] <;> rfl)
   ·exact ih x1 x12 x13 (IntKind.wrap .i64 (x14 + 1))
  ·exact le_ret (by first | rfl | simp only [EN, packet_numbers_out] <;> rfl)
theorem packet_numbers_ok (p0 : (List Int)) (p1 : (List Int)) : Le (Option.map packet_numbers_out (packet_numbers p0 p1)) (callW SE 68 [.d (.sl [.int .i64] (List.map (encI .i64) p0)), .d (.sl [.int .i64] (List.map (encI .i64) p1))] [] []) := by
 refine le_bodyC Cr68 rfl ?_
 refine Le.trans ?_ (le_of_eq (T68 _ _ _  p0 p1).symm)
 unfold packet_numbers
 refine le_cond (by simp only [EN]) (fun _ => ?_) (fun _ => ?_)
 ·exact le_ret (by first | rfl | simp only [EN, packet_numbers_out] <;> rfl)
 ·first | (simp only [EN]; exact packet_numbers_l4_ok fuel p1 p0 (List.length p0 : Int) 0) | exact packet_numbers_l4_ok fuel p1 p0 (List.length p0 : Int) 0
def C40 (Γ : Fun) (γ64 : Gm (packet_plain)) (γ65 : Gm (Bool)) (γ66 : Gm (Bool)) (γ67 : Gm (Bool)) (γ68 : Gm (Bool)) : CFun := updC (updC (updC (updC (updC (bindC Γ) 64 packet_plainOf_out γ64) 65 message_Same_out γ65) 66 packet_subs_out γ66) 67 packet_texts_out γ67) 68 packet_numbers_out γ68
theorem T40 (Γ : Fun) (γ64 : Gm (packet_plain)) (γ65 : Gm (Bool)) (γ66 : Gm (Bool)) (γ67 : Gm (Bool)) (γ68 : Gm (Bool)) (Λ2 J : Lam) (p0 : api_Packet) (p1 : api_Packet) : bodyC SE (C40 Γ γ64 γ65 γ66 γ67 γ68) Λ2 J 40 [api_Packet.av p0, api_Packet.av p1] [] [] =
 γ64 [api_Packet.av p0] [] [] fun r0 =>
 γ64 [api_Packet.av p1] [] [] fun r1 =>
 cond ((r0.kind == r1.kind) && ((r0.id == r1.id) && ((r0.keep == r1.keep) && ((r0.expiry == r1.expiry) && ((r0.window == r1.window) && ((r0.code == r1.code) && ((r0.delay == r1.delay) && ((r0.dup == r1.dup) && ((r0.clean == r1.clean) && ((r0.present == r1.present) && ((r0.set_ == r1.set_) && ((r0.client == r1.client) && ((r0.user == r1.user) && true))))))))))))) (
 γ65 [api_Message.av p0.Message, api_Message.av p1.Message] [] [] fun r2 =>
 cond r2 (
  γ65 [api_Message.av p0.Will.Message, api_Message.av p1.Will.Message] [] [] fun r3 =>
  cond r3 (
  γ66 [.d (.sl api_Sub.ks (List.map api_Sub.enc p0.Subs)), .d (.sl api_Sub.ks (List.map api_Sub.enc p1.Subs))] [] [] fun r4 =>
  cond r4 (
   γ67 [.d (.sl [.str] (List.map encS p0.Filters)), .d (.sl [.str] (List.map encS p1.Filters))] [] [] fun r5 =>
   cond r5 (
   γ68 [.d (.sl [.int .i64] (List.map (encI .i64) p0.Codes)), .d (.sl [.int .i64] (List.map (encI .i64) p1.Codes))] [] [] fun r6 =>
   (some (.ret [.d (.bool r6)] [] []))) (
   (some (.ret [.d (.bool false)] [] [])))) (
  (some (.ret [.d (.bool false)] [] [])))) (
  (some (.ret [.d (.bool false)] [] [])))) (
 (some (.ret [.d (.bool false)] [] [])))) (
 (some (.ret [.d (.bool false)] [] []))) := by kernel_rfl
abbrev X40 : CFun := C40 (callG SE good) (callT SE good 64 packet_plainOf_out) (callT SE good 65 message_Same_out) (callT SE good 66 packet_subs_out) (callT SE good 67 packet_texts_out) (callT SE good 68 packet_numbers_out)
theorem Cr40 : C40 (callG SE good) (callT SE good 64 packet_plainOf_out) (callT SE good 65 message_Same_out) (callT SE good 66 packet_subs_out) (callT SE good 67 packet_texts_out) (callT SE good 68 packet_numbers_out) = bindC (callG SE good) := by unfold C40; rw [updC_real (fun _ h => h), updC_real (fun _ h => h), updC_real (fun _ h => h), updC_real (fun _ h => h), updC_real (fun _ h => h)]
theorem packet_Same_ok (p0 : api_Packet) (p1 : api_Packet) : Le (Option.map packet_Same_out (packet_Same p0 p1)) (callW SE 40 [api_Packet.av p0, api_Packet.av p1] [] []) := by
 refine le_bodyC Cr40 rfl ?_
 refine Le.trans ?_ (le_of_eq (T40 _ _ _ _ _ _ _ _  p0 p1).symm)
 unfold packet_Same
 refine le_call (good := good) eX packet_plainOf_inj (packet_plainOf_ok p0) (fun r0 _ => ?_)
 refine le_call (good := good) eX packet_plainOf_inj (packet_plainOf_ok p1) (fun r1 _ => ?_)
 refine lC ?_ ?_
 ·refine le_call (good := good) eX message_Same_inj (message_Same_ok p0.Message p1.Message) (fun r2 _ => ?_)
  refine lC ?_ ?_
  ·refine le_call (good := good) eX message_Same_inj (message_Same_ok p0.Will.Message p1.Will.Message) (fun r3 _ => ?_)
   refine lC ?_ ?_
   ·refine le_call (good := good) eX packet_subs_inj (packet_subs_ok p0.Subs p1.Subs) (fun r4 _ => ?_)
    refine lC ?_ ?_
    ·refine le_call (good := good) eX packet_texts_inj (packet_texts_ok p0.Filters p1.Filters) (fun r5 _ => ?_)
     refine lC ?_ ?_
     ·refine le_call (good := good) eX packet_numbers_inj (packet_numbers_ok p0.Codes p1.Codes) (fun r6 _ => ?_)
      exact le_ret (by first | rfl | simp only [EN, packet_Same_out] <;> rfl)
     ·exact le_ret (by first | rfl | simp only [EN, packet_Same_out] <;> rfl)
    ·exact le_ret (by first | rfl | simp only [EN, packet_Same_out] <;> rfl)
   ·exact le_ret (by first | rfl | simp only [EN, packet_Same_out] <;> rfl)
  ·exact le_ret (by first | rfl | simp only [EN, packet_Same_out] <;> rfl)
 ·exact le_ret (by first | rfl | simp only [EN, packet_Same_out] <;> rfl)
def C69 (Γ : Fun)  : CFun := bindC Γ
def R69_7 (C : CFun) (Λ2 J : Lam) (a0 : Int) (a1 : Int) (a2 : Bool) (a3 : Str) (a4 : Nat) : Res := lab SE C Λ2 J 69 0 [1, 1, 0, 1, 0, 0, 1, 1, 0, 1, 1, 0] (stoOf [(3, .d (.int .i64 a0)), (4, .d (.int .i32 a1)), (5, .d (.bool a2)), (15, .it 4000)] [] [] [(4000, (a3, a4))] [])
def R69_4 (C : CFun) (Λ2 J : Lam) (a0 : Str) (a1 : Nat) : Res := lab SE C Λ2 J 69 0 [1, 1, 0, 1, 0] (stoOf [(15, .it 4000)] [] [] [(4000, (a0, a1))] [])
def R69_3 (C : CFun) (Λ2 J : Lam) (a0 : Str) : Res := lab SE C Λ2 J 69 0 [1, 1, 0, 0] (stoOf [(0, .d (.str a0))] [] [] [] [])
theorem T69 (Γ : Fun)  (Λ2 J : Lam) (p0 : Str) : bodyC SE (C69 Γ) Λ2 J 69 [.d (.str p0)] [] [] =
 cond (decide ((List.length p0 : Int) < 1)) (
 (some (.ret [.d (.bool false)] [] []))) (
 cond (decide ((List.length p0 : Int) > 16)) (
 (some (.ret [.d (.bool false)] [] []))) (
 R69_3 (C69 Γ) Λ2 J p0)) := by kernel_rfl
theorem T69_7 (Γ : Fun)  (Λ2 J : Lam) (x3 : Int) (x4 : Int) (x5 : Bool) (s4000 : Str) (i4000 : Nat) : labU SE (C69 Γ) Λ2 J 69 0 [1, 1, 0, 1, 0, 0, 1, 1, 0, 1, 1, 0] (stoOf [(3, .d (.int .i64 x3)), (4, .d (.int .i32 x4)), (5, .d (.bool x5)), (15, .it 4000)] [] [] [(4000, (s4000, i4000))] []) =
 cond (!x5) (
 cond (x3 == 0) (
  (some (.ret [.d (.bool false)] [] []))) (
 cond (x4 != 45) (
  cond (decide (x4 < 48)) (
  (some (.ret [.d (.bool false)] [] []))) (
  cond (decide (x4 > 57)) (
  (some (.ret [.d (.bool false)] [] []))) (
  R69_4 (C69 Γ) Λ2 J s4000 i4000))) (
 R69_4 (C69 Γ) Λ2 J s4000 i4000))) (
 R69_4 (C69 Γ) Λ2 J s4000 i4000) := by kernel_rfl
theorem T69_4 (Γ : Fun)  (Λ2 J : Lam) (s4000 : Str) (i4000 : Nat) : labU SE (C69 Γ) Λ2 J 69 0 [1, 1, 0, 1, 0] (stoOf [(15, .it 4000)] [] [] [(4000, (s4000, i4000))] []) =
 cond (decide (i4000 < List.length s4000)) (
 cond (decide (((dec s4000 i4000).1 : Int) ≥ 97)) (
  R69_7 (C69 Γ) Λ2 J (i4000 : Int) ((dec s4000 i4000).1 : Int) (decide (((dec s4000 i4000).1 : Int) ≤ 122)) s4000 (i4000 + (dec s4000 i4000).2)) (
 R69_7 (C69 Γ) Λ2 J (i4000 : Int) ((dec s4000 i4000).1 : Int) false s4000 (i4000 + (dec s4000 i4000).2))) (
 (some (.ret [.d (.bool true)] [] []))) := by kernel_rfl
theorem T69_3 (Γ : Fun)  (Λ2 J : Lam) (x0 : Str) : labU SE (C69 Γ) Λ2 J 69 0 [1, 1, 0, 0] (stoOf [(0, .d (.str x0))] [] [] [] []) =
 R69_4 (C69 Γ) Λ2 J x0 0 := by kernel_rfl
abbrev X69 : CFun := C69 (callG SE good)
theorem Cr69 : C69 (callG SE good) = bindC (callG SE good) := by unfold C69; rfl
noncomputable abbrev Q69_7 (a0 : Int) (a1 : Int) (a2 : Bool) (a3 : Str) (a4 : Nat) : Res := R69_7 X69 (lam2 SE (callG SE good) (SE.hl 69) (SE.hr 69)) (J0 SE X69) a0 a1 a2 a3 a4
noncomputable abbrev Q69_4 (a0 : Str) (a1 : Nat) : Res := R69_4 X69 (lam2 SE (callG SE good) (SE.hl 69) (SE.hr 69)) (J0 SE X69) a0 a1
noncomputable abbrev Q69_3 (a0 : Str) : Res := R69_3 X69 (lam2 SE (callG SE good) (SE.hl 69) (SE.hr 69)) (J0 SE X69) a0
theorem topic_Name_j7_ok (k4 : Str → Nat → Option (Bool)) (hk4 : ∀ (s4000 : Str) (i4000 : Nat), Le (Option.map topic_Name_out (k4 s4000 i4000)) (Q69_4 s4000 i4000)) (x3 : Int) (x4 : Int) (x5 : Bool) (s4000 : Str) (i4000 : Nat) : Le (Option.map topic_Name_out (topic_Name_j7 k4 x3 x4 x5 s4000 i4000)) (Q69_7 x3 x4 x5 s4000 i4000) := by
 refine Le.trans ?_ (le_of_eq ((lab_realC Cr69).trans (T69_7 _ _ _  x3 x4 x5 s4000 i4000)).symm)
 unfold topic_Name_j7
 refine lC ?_ ?_
 ·refine lC ?_ ?_
  ·exact le_ret (by first | rfl | simp only [EN, topic_Name_out] <;> rfl)
  ·refine lC ?_ ?_
   ·refine lC ?_ ?_
    ·exact le_ret (by first | rfl | simp only [EN, topic_Name_out] <;> rfl)
    ·refine lC ?_ ?_
     ·exact le_ret (by first | rfl | simp only [EN, topic_Name_out] <;> rfl)
     ·exact hk4 s4000 i4000
   ·exact hk4 s4000 i4000
 ·exact hk4 s4000 i4000
theorem topic_Name_l4_ok : ∀ (fu : Nat) (s4000 : Str) (i4000 : Nat), Le (Option.map topic_Name_out (topic_Name_l4 fu s4000 i4000)) (Q69_4 s4000 i4000) := by
 intro fu
 induction fu with
 | zero => intros; exact le_none
 | succ fu ih =>
  intro s4000 i4000
  refine Le.trans ?_ (le_of_eq ((lab_realC Cr69).trans (T69_4 _ _ _  s4000 i4000)).symm)
  unfold topic_Name_l4
  refine lC ?_ ?_
  ·refine lC ?_ ?_
   ·exact topic_Name_j7_ok _ (ih) (i4000 : Int) ((dec s4000 i4000).1 : Int) (decide (((dec s4000 i4000).1 : Int) ≤ 122)) s4000 (i4000 + (dec s4000 i4000).2)
   ·exact topic_Name_j7_ok _ (ih) (i4000 : Int) ((dec s4000 i4000).1 : Int) false s4000 (i4000 + (dec s4000 i4000).2)
  ·exact le_ret (by first | rfl | simp only [EN, topic_Name_out] <;> rfl)
theorem topic_Name_j3_ok (x0 : Str) : Le (Option.map topic_Name_out (topic_Name_j3 x0)) (Q69_3 x0) := by
 refine Le.trans ?_ (le_of_eq ((lab_realC Cr69).trans (T69_3 _ _ _  x0)).symm)
 unfold topic_Name_j3
 exact topic_Name_l4_ok fuel x0 0
theorem topic_Name_ok (p0 : Str) : Le (Option.map topic_Name_out (topic_Name p0)) (callW SE 69 [.d (.str p0)] [] []) := by
 refine le_bodyC Cr69 rfl ?_
 refine Le.trans ?_ (le_of_eq (T69 _ _ _  p0).symm)
 unfold topic_Name
 refine lC ?_ ?_
 ·exact le_ret (by first | rfl | simp only [EN, topic_Name_out] <;> rfl)
 ·refine lC ?_ ?_
  ·exact le_ret (by first | rfl | simp only [EN, topic_Name_out] <;> rfl)
  ·exact topic_Name_j3_ok p0
def C95 (Γ : Fun)  : CFun := bindC Γ
def R95_5 (C : CFun) (Λ2 J : Lam) (a0 : Int) (a1 : Str) (a2 : Nat) : Res := lab SE C Λ2 J 95 0 [1, 1, 1, 0, 1, 0] (stoOf [(3, .d (.int .i64 a0)), (15, .it 4000)] [] [] [(4000, (a1, a2))] [])
def R95_3 (C : CFun) (Λ2 J : Lam) (a0 : Str) : Res := lab SE C Λ2 J 95 0 [1, 1, 0] (stoOf [(0, .d (.str a0))] [] [] [] [])
theorem T95 (Γ : Fun)  (Λ2 J : Lam) (p0 : Str) : bodyC SE (C95 Γ) Λ2 J 95 [.d (.str p0)] [] [] =
 cond (decide ((List.length p0 : Int) < 1)) (
 (some (.ret [.d (.bool false)] [] []))) (
 cond (decide ((List.length p0 : Int) > 64)) (
 (some (.ret [.d (.bool false)] [] []))) (
 R95_3 (C95 Γ) Λ2 J p0)) := by kernel_rfl
theorem T95_5 (Γ : Fun)  (Λ2 J : Lam) (x3 : Int) (s4000 : Str) (i4000 : Nat) : labU SE (C95 Γ) Λ2 J 95 0 [1, 1, 1, 0, 1, 0] (stoOf [(3, .d (.int .i64 x3)), (15, .it 4000)] [] [] [(4000, (s4000, i4000))] []) =
 cond (decide (i4000 < List.length s4000)) (
 cond (((dec s4000 i4000).1 : Int) == 0) (
  (some (.ret [.d (.bool false)] [] []))) (
 cond (((dec s4000 i4000).1 : Int) == 47) (
  R95_5 (C95 Γ) Λ2 J (IntKind.wrap .i64 (x3 + 1)) s4000 (i4000 + (dec s4000 i4000).2)) (
 R95_5 (C95 Γ) Λ2 J x3 s4000 (i4000 + (dec s4000 i4000).2)))) (
 (some (.ret [.d (.bool (decide (x3 ≤ 8)))] [] []))) := by kernel_rfl
theorem T95_3 (Γ : Fun)  (Λ2 J : Lam) (x0 : Str) : labU SE (C95 Γ) Λ2 J 95 0 [1, 1, 0] (stoOf [(0, .d (.str x0))] [] [] [] []) =
 R95_5 (C95 Γ) Λ2 J 1 x0 0 := by kernel_rfl
abbrev X95 : CFun := C95 (callG SE good)
theorem Cr95 : C95 (callG SE good) = bindC (callG SE good) := by unfold C95; rfl
noncomputable abbrev Q95_5 (a0 : Int) (a1 : Str) (a2 : Nat) : Res := R95_5 X95 (lam2 SE (callG SE good) (SE.hl 95) (SE.hr 95)) (J0 SE X95) a0 a1 a2
noncomputable abbrev Q95_3 (a0 : Str) : Res := R95_3 X95 (lam2 SE (callG SE good) (SE.hl 95) (SE.hr 95)) (J0 SE X95) a0
theorem topic_sized_l5_ok : ∀ (fu : Nat) (x3 : Int) (s4000 : Str) (i4000 : Nat), Le (Option.map topic_sized_out (topic_sized_l5 fu x3 s4000 i4000)) (Q95_5 x3 s4000 i4000) := by
 intro fu
 induction fu with
 | zero => intros; exact le_none
 | succ fu ih =>
  intro x3 s4000 i4000
  refine Le.trans ?_ (le_of_eq ((lab_realC Cr95).trans (T95_5 _ _ _  x3 s4000 i4000)).symm)
  unfold topic_sized_l5
  refine lC ?_ ?_
  ·refine lC ?_ ?_
   ·exact le_ret (by first | rfl | simp only [EN, topic_sized_out] <;> rfl)
   ·refine lC ?_ ?_
    ·exact ih (IntKind.wrap .i64 (x3 + 1)) s4000 (i4000 + (dec s4000 i4000).2)
    ·exact ih x3 s4000 (i4000 + (dec s4000 i4000).2)
  ·exact le_ret (by first | rfl | simp only [EN, topic_sized_out] <;> rfl)
theorem topic_sized_j3_ok (x0 : Str) : Le (Option.map topic_sized_out (topic_sized_j3 x0)) (Q95_3 x0) := by
 refine Le.trans ?_ (le_of_eq ((lab_realC Cr95).trans (T95_3 _ _ _  x0)).symm)
 unfold topic_sized_j3
 exact topic_sized_l5_ok fuel 1 x0 0
theorem topic_sized_ok (p0 : Str) : Le (Option.map topic_sized_out (topic_sized p0)) (callW SE 95 [.d (.str p0)] [] []) := by
 refine le_bodyC Cr95 rfl ?_
 refine Le.trans ?_ (le_of_eq (T95 _ _ _  p0).symm)
 unfold topic_sized
 refine lC ?_ ?_
 ·exact le_ret (by first | rfl | simp only [EN, topic_sized_out] <;> rfl)
 ·refine lC ?_ ?_
  ·exact le_ret (by first | rfl | simp only [EN, topic_sized_out] <;> rfl)
  ·exact topic_sized_j3_ok p0
def C84 (Γ : Fun) (γ95 : Gm (Bool)) : CFun := updC (bindC Γ) 95 topic_sized_out γ95
def R84_4 (C : CFun) (Λ2 J : Lam) (a0 : Str) (a1 : Nat) : Res := lab SE C Λ2 J 84 0 [1, 1, 0, 1, 0] (stoOf [(9, .it 4000)] [] [] [(4000, (a0, a1))] [])
theorem T84 (Γ : Fun) (γ95 : Gm (Bool)) (Λ2 J : Lam) (p0 : Str) : bodyC SE (C84 Γ γ95) Λ2 J 84 [.d (.str p0)] [] [] =
 γ95 [.d (.str p0)] [] [] fun r0 =>
 cond (!r0) (
 (some (.ret [.d (.bool false)] [] []))) (
 R84_4 (C84 Γ γ95) Λ2 J p0 0) := by kernel_rfl
theorem T84_4 (Γ : Fun) (γ95 : Gm (Bool)) (Λ2 J : Lam) (s4000 : Str) (i4000 : Nat) : labU SE (C84 Γ γ95) Λ2 J 84 0 [1, 1, 0, 1, 0] (stoOf [(9, .it 4000)] [] [] [(4000, (s4000, i4000))] []) =
 cond (decide (i4000 < List.length s4000)) (
 cond (((dec s4000 i4000).1 : Int) == 43) (
  (some (.ret [.d (.bool false)] [] []))) (
 cond (((dec s4000 i4000).1 : Int) == 35) (
  (some (.ret [.d (.bool false)] [] []))) (
 R84_4 (C84 Γ γ95) Λ2 J s4000 (i4000 + (dec s4000 i4000).2)))) (
 (some (.ret [.d (.bool true)] [] []))) := by kernel_rfl
abbrev X84 : CFun := C84 (callG SE good) (callT SE good 95 topic_sized_out)
theorem Cr84 : C84 (callG SE good) (callT SE good 95 topic_sized_out) = bindC (callG SE good) := by unfold C84; rw [updC_real (fun _ h => h)]
noncomputable abbrev Q84_4 (a0 : Str) (a1 : Nat) : Res := R84_4 X84 (lam2 SE (callG SE good) (SE.hl 84) (SE.hr 84)) (J0 SE X84) a0 a1
theorem topic_Valid_l4_ok : ∀ (fu : Nat) (s4000 : Str) (i4000 : Nat), Le (Option.map topic_Valid_out (topic_Valid_l4 fu s4000 i4000)) (Q84_4 s4000 i4000) := by
 intro fu
 induction fu with
 | zero => intros; exact le_none
 | succ fu ih =>
  intro s4000 i4000
  refine Le.trans ?_ (le_of_eq ((lab_realC Cr84).trans (T84_4 _ _ _ _  s4000 i4000)).symm)
  unfold topic_Valid_l4
  refine lC ?_ ?_
  ·refine lC ?_ ?_
   ·exact le_ret (by first | rfl | simp only [EN, topic_Valid_out] <;> rfl)
   ·refine lC ?_ ?_
    ·exact le_ret (by first | rfl | simp only [EN, topic_Valid_out] <;> rfl)
    ·exact ih s4000 (i4000 + (dec s4000 i4000).2)
  ·exact le_ret (by first | rfl | simp only [EN, topic_Valid_out] <;> rfl)
theorem topic_Valid_ok (p0 : Str) : Le (Option.map topic_Valid_out (topic_Valid p0)) (callW SE 84 [.d (.str p0)] [] []) := by
 refine le_bodyC Cr84 rfl ?_
 refine Le.trans ?_ (le_of_eq (T84 _ _ _ _  p0).symm)
 unfold topic_Valid
 refine le_call (good := good) eX topic_sized_inj (topic_sized_ok p0) (fun r0 _ => ?_)
 refine lC ?_ ?_
 ·exact le_ret (by first | rfl | simp only [EN, topic_Valid_out] <;> rfl)
 ·exact topic_Valid_l4_ok fuel p0 0
def C85 (Γ : Fun)  : CFun := bindC Γ
theorem T85 (Γ : Fun)  (Λ2 J : Lam) (p0 : Int) (p1 : Int) : bodyC SE (C85 Γ) Λ2 J 85 [.d (.int .i64 p0), .d (.int .i64 p1)] [] [] =
 cond (decide (p0 ≥ 0)) (
 (some (.ret [.d (.bool (decide (p0 ≤ p1)))] [] []))) (
 (some (.ret [.d (.bool false)] [] []))) := by kernel_rfl
abbrev X85 : CFun := C85 (callG SE good)
theorem Cr85 : C85 (callG SE good) = bindC (callG SE good) := by unfold C85; rfl
theorem message_is_ok (p0 : Int) (p1 : Int) : Le (Option.map message_is_out (message_is p0 p1)) (callW SE 85 [.d (.int .i64 p0), .d (.int .i64 p1)] [] []) := by
 refine le_bodyC Cr85 rfl ?_
 refine Le.trans ?_ (le_of_eq (T85 _ _ _  p0 p1).symm)
 unfold message_is
 refine lC ?_ ?_
 ·exact le_ret (by first | rfl | simp only [EN, message_is_out] <;> rfl)
 ·exact le_ret (by first | rfl | simp only [EN, message_is_out] <;> rfl)
def C96 (Γ : Fun)  : CFun := bindC Γ
def R96_4 (C : CFun) (Λ2 J : Lam) (a0 : Str) (a1 : Int) : Res := lab SE C Λ2 J 96 0 [1, 1, 0, 1, 0] (stoOf [(0, .d (.str a0)), (3, .d (.int .i64 a1))] [] [] [] [])
def R96_3 (C : CFun) (Λ2 J : Lam) (a0 : Str) : Res := lab SE C Λ2 J 96 0 [1, 1, 0, 0] (stoOf [(0, .d (.str a0))] [] [] [] [])
theorem T96 (Γ : Fun)  (Λ2 J : Lam) (p0 : Str) : bodyC SE (C96 Γ) Λ2 J 96 [.d (.str p0)] [] [] =
 cond (decide ((List.length p0 : Int) < 1)) (
 (some (.ret [.d (.bool false)] [] []))) (
 cond (decide ((List.length p0 : Int) > 16)) (
 (some (.ret [.d (.bool false)] [] []))) (
 R96_3 (C96 Γ) Λ2 J p0)) := by kernel_rfl
theorem T96_4 (Γ : Fun)  (Λ2 J : Lam) (x0 : Str) (x3 : Int) : labU SE (C96 Γ) Λ2 J 96 0 [1, 1, 0, 1, 0] (stoOf [(0, .d (.str x0)), (3, .d (.int .i64 x3))] [] [] [] []) =
 cond (decide (x3 < (List.length x0 : Int))) (
 cond (decide (0 ≤ x3) && decide (x3 < (List.length x0 : Int))) (
  cond (decide ((UInt8.toNat (List.getD x0 (Int.toNat x3) 0) : Int) < 97)) (
  cond (decide ((UInt8.toNat (List.getD x0 (Int.toNat x3) 0) : Int) < 48)) (
   cond ((UInt8.toNat (List.getD x0 (Int.toNat x3) 0) : Int) != 45) (
   (some (.ret [.d (.bool false)] [] []))) (
   R96_4 (C96 Γ) Λ2 J x0 (IntKind.wrap .i64 (x3 + 1)))) (
  cond (decide ((UInt8.toNat (List.getD x0 (Int.toNat x3) 0) : Int) > 57)) (
   cond ((UInt8.toNat (List.getD x0 (Int.toNat x3) 0) : Int) != 45) (
   (some (.ret [.d (.bool false)] [] []))) (
   R96_4 (C96 Γ) Λ2 J x0 (IntKind.wrap .i64 (x3 + 1)))) (
  R96_4 (C96 Γ) Λ2 J x0 (IntKind.wrap .i64 (x3 + 1))))) (
  cond (decide ((UInt8.toNat (List.getD x0 (Int.toNat x3) 0) : Int) > 122)) (
  cond (decide ((UInt8.toNat (List.getD x0 (Int.toNat x3) 0) : Int) < 48)) (
   cond ((UInt8.toNat (List.getD x0 (Int.toNat x3) 0) : Int) != 45) (
   (some (.ret [.d (.bool false)] [] []))) (
   R96_4 (C96 Γ) Λ2 J x0 (IntKind.wrap .i64 (x3 + 1)))) (
  cond (decide ((UInt8.toNat (List.getD x0 (Int.toNat x3) 0) : Int) > 57)) (
   cond ((UInt8.toNat (List.getD x0 (Int.toNat x3) 0) : Int) != 45) (
   (some (.ret [.d (.bool false)] [] []))) (
   R96_4 (C96 Γ) Λ2 J x0 (IntKind.wrap .i64 (x3 + 1)))) (
  R96_4 (C96 Γ) Λ2 J x0 (IntKind.wrap .i64 (x3 + 1))))) (
  R96_4 (C96 Γ) Λ2 J x0 (IntKind.wrap .i64 (x3 + 1))))) none) (
 (some (.ret [.d (.bool true)] [] []))) := by kernel_rfl
theorem T96_3 (Γ : Fun)  (Λ2 J : Lam) (x0 : Str) : labU SE (C96 Γ) Λ2 J 96 0 [1, 1, 0, 0] (stoOf [(0, .d (.str x0))] [] [] [] []) =
 R96_4 (C96 Γ) Λ2 J x0 0 := by kernel_rfl
abbrev X96 : CFun := C96 (callG SE good)
theorem Cr96 : C96 (callG SE good) = bindC (callG SE good) := by unfold C96; rfl
noncomputable abbrev Q96_4 (a0 : Str) (a1 : Int) : Res := R96_4 X96 (lam2 SE (callG SE good) (SE.hl 96) (SE.hr 96)) (J0 SE X96) a0 a1
noncomputable abbrev Q96_3 (a0 : Str) : Res := R96_3 X96 (lam2 SE (callG SE good) (SE.hl 96) (SE.hr 96)) (J0 SE X96) a0
theorem message_key_l4_ok : ∀ (fu : Nat) (x0 : Str) (x3 : Int), Le (Option.map message_key_out (message_key_l4 fu x0 x3)) (Q96_4 x0 x3) := by
 intro fu
 induction fu with
 | zero => intros; exact le_none
 | succ fu ih =>
  intro x0 x3
  refine Le.trans ?_ (le_of_eq ((lab_realC Cr96).trans (T96_4 _ _ _  x0 x3)).symm)
  unfold message_key_l4
  refine lC ?_ ?_
  ·refine lF ?_
   refine lC ?_ ?_
   ·refine lC ?_ ?_
    ·refine lC ?_ ?_
     ·exact le_ret (by first | rfl | simp only [EN, message_key_out] <;> rfl)
     ·exact ih x0 (IntKind.wrap .i64 (x3 + 1))
    ·refine lC ?_ ?_
     ·refine lC ?_ ?_
      ·exact le_ret (by first | rfl | simp only [EN, message_key_out] <;> rfl)
      ·exact ih x0 (IntKind.wrap .i64 (x3 + 1))
     ·exact ih x0 (IntKind.wrap .i64 (x3 + 1))
   ·refine lC ?_ ?_
    ·refine lC ?_ ?_
     ·refine lC ?_ ?_
      ·exact le_ret (by first | rfl | simp only [EN, message_key_out] <;> rfl)
      ·exact ih x0 (IntKind.wrap .i64 (x3 + 1))
     ·refine lC ?_ ?_
      ·refine lC ?_ ?_
       ·exact le_ret (by first | rfl | simp only [EN, message_key_out] <;> rfl)
       ·exact ih x0 (IntKind.wrap .i64 (x3 + 1))
      ·exact ih x0 (IntKind.wrap .i64 (x3 + 1))
    ·exact ih x0 (IntKind.wrap .i64 (x3 + 1))
  ·exact le_ret (by first | rfl | simp only [EN, message_key_out] <;> rfl)
theorem message_key_j3_ok (x0 : Str) : Le (Option.map message_key_out (message_key_j3 x0)) (Q96_3 x0) := by
 refine Le.trans ?_ (le_of_eq ((lab_realC Cr96).trans (T96_3 _ _ _  x0)).symm)
 unfold message_key_j3
 exact message_key_l4_ok fuel x0 0
theorem message_key_ok (p0 : Str) : Le (Option.map message_key_out (message_key p0)) (callW SE 96 [.d (.str p0)] [] []) := by
 refine le_bodyC Cr96 rfl ?_
 refine Le.trans ?_ (le_of_eq (T96 _ _ _  p0).symm)
 unfold message_key
 refine lC ?_ ?_
 ·exact le_ret (by first | rfl | simp only [EN, message_key_out] <;> rfl)
 ·refine lC ?_ ?_
  ·exact le_ret (by first | rfl | simp only [EN, message_key_out] <;> rfl)
  ·exact message_key_j3_ok p0
def C86 (Γ : Fun) (γ96 : Gm (Bool)) : CFun := updC (bindC Γ) 96 message_key_out γ96
def R86_4 (C : CFun) (Λ2 J : Lam) (a0 : (List (List D))) (a1 : (List (List D))) (a2 : Int) (a3 : Int) : Res := lab SE C Λ2 J 86 0 [1, 1, 0, 1, 0] (stoOf [(0, .d (.sl api_Prop.ks a0)), (8, .d (.sl api_Prop.ks a1)), (9, .d (.int .i64 a2)), (10, .d (.int .i64 a3))] [] [] [] [])
theorem T86 (Γ : Fun) (γ96 : Gm (Bool)) (Λ2 J : Lam) (p0 : (List api_Prop)) : bodyC SE (C86 Γ γ96) Λ2 J 86 [.d (.sl api_Prop.ks (List.map api_Prop.enc p0))] [] [] =
 cond (decide ((List.length (List.map api_Prop.enc p0) : Int) > 8)) (
 (some (.ret [.d (.int .i64 5)] [] []))) (
 R86_4 (C86 Γ γ96) Λ2 J (List.map api_Prop.enc p0) (List.map api_Prop.enc p0) (List.length (List.map api_Prop.enc p0) : Int) 0) := by kernel_rfl
theorem T86_4 (Γ : Fun) (γ96 : Gm (Bool)) (Λ2 J : Lam) (x0 : (List api_Prop)) (x8 : (List api_Prop)) (x9 : Int) (x10 : Int) : labU SE (C86 Γ γ96) Λ2 J 86 0 [1, 1, 0, 1, 0] (stoOf [(0, .d (.sl api_Prop.ks (List.map api_Prop.enc x0))), (8, .d (.sl api_Prop.ks (List.map api_Prop.enc x8))), (9, .d (.int .i64 x9)), (10, .d (.int .i64 x10))] [] [] [] []) =
 cond (decide (x10 < x9)) (
 cond (decide (0 ≤ x10) && decide (x10 < (List.length (List.map api_Prop.enc x8) : Int))) (
  γ96 [.d (.str (dStr (cellAt (elemAt (List.map api_Prop.enc x8) (Int.toNat x10)) 0)))] [] [] fun r0 =>
  cond (!r0) (
  (some (.ret [.d (.int .i64 16)] [] []))) (
  cond (decide ((List.length (dStr (cellAt (elemAt (List.map api_Prop.enc x8) (Int.toNat x10)) 1)) : Int) > 160)) (
  (some (.ret [.d (.int .i64 5)] [] []))) (
  cond (decide (x10 > 0)) (
  cond (decide (0 ≤ (IntKind.wrap .i64 (x10 - 1))) && decide ((IntKind.wrap .i64 (x10 - 1)) < (List.length (List.map api_Prop.enc x0) : Int))) (
   cond (Op.bytesLess (dStr (cellAt (elemAt (List.map api_Prop.enc x8) (Int.toNat x10)) 0)) (dStr (cellAt (elemAt (List.map api_Prop.enc x0) (Int.toNat (IntKind.wrap .i64 (x10 - 1)))) 0)) || (dStr (cellAt (elemAt (List.map api_Prop.enc x8) (Int.toNat x10)) 0)) == (dStr (cellAt (elemAt (List.map api_Prop.enc x0) (Int.toNat (IntKind.wrap .i64 (x10 - 1)))) 0))) (
   (some (.ret [.d (.int .i64 16)] [] []))) (
   R86_4 (C86 Γ γ96) Λ2 J (List.map api_Prop.enc x0) (List.map api_Prop.enc x8) x9 (IntKind.wrap .i64 (x10 + 1)))) none) (
  R86_4 (C86 Γ γ96) Λ2 J (List.map api_Prop.enc x0) (List.map api_Prop.enc x8) x9 (IntKind.wrap .i64 (x10 + 1)))))) none) (
 (some (.ret [.d (.int .i64 0)] [] []))) := by kernel_rfl
abbrev X86 : CFun := C86 (callG SE good) (callT SE good 96 message_key_out)
theorem Cr86 : C86 (callG SE good) (callT SE good 96 message_key_out) = bindC (callG SE good) := by unfold C86; rw [updC_real (fun _ h => h)]
noncomputable abbrev Q86_4 (a0 : (List (List D))) (a1 : (List (List D))) (a2 : Int) (a3 : Int) : Res := R86_4 X86 (lam2 SE (callG SE good) (SE.hl 86) (SE.hr 86)) (J0 SE X86) a0 a1 a2 a3
theorem message_Props_l4_ok : ∀ (fu : Nat) (x0 : (List api_Prop)) (x8 : (List api_Prop)) (x9 : Int) (x10 : Int), Le (Option.map message_Props_out (message_Props_l4 fu x0 x8 x9 x10)) (Q86_4 (List.map api_Prop.enc x0) (List.map api_Prop.enc x8) x9 x10) := by
 intro fu
 induction fu with
 | zero => intros; exact le_none
 | succ fu ih =>
  intro x0 x8 x9 x10
  refine Le.trans ?_ (le_of_eq ((lab_realC Cr86).trans (T86_4 _ _ _ _  x0 x8 x9 x10)).symm)
  unfold message_Props_l4
  refine lC ?_ ?_
  ·refine le_cond (by simp only [EN]) (fun _ => ?_) (fun _ => le_none)
   refine le_call (good := good) eX message_key_inj (by first | (simp only [EN]; exact message_key_ok ((List.getD x8 (Int.toNat x10) default).Key)) | exact message_key_ok ((List.getD x8 (Int.toNat x10) default).Key)) (fun r0 _ => ?_)
   refine lC ?_ ?_
   ·exact le_ret (by first | rfl | simp only [EN, message_Props_out] <;> rfl)
   ·refine le_cond (by simp only [EN]) (fun _ => ?_) (fun _ => ?_)
    ·exact le_ret (by first | rfl | simp only [EN, message_Props_out] <;> rfl)
    ·refine lC ?_ ?_
     ·refine le_cond (by simp only [EN]) (fun _ => ?_) (fun _ => le_none)
      refine le_cond (by simp only [EN]) (fun _ => ?_) (fun _ => ?_)
      ·exact le_ret (by first | rfl | simp only [EN, message_Props_out] <;> rfl)
      ·exact ih x0 x8 x9 (IntKind.wrap .i64 (x10 + 1))
     ·exact ih x0 x8 x9 (IntKind.wrap .i64 (x10 + 1))
  ·exact le_ret (by first | rfl | simp only [EN, message_Props_out] <;> rfl)
theorem message_Props_ok (p0 : (List api_Prop)) : Le (Option.map message_Props_out (message_Props p0)) (callW SE 86 [.d (.sl api_Prop.ks (List.map api_Prop.enc p0))] [] []) := by
 refine le_bodyC Cr86 rfl ?_
 refine Le.trans ?_ (le_of_eq (T86 _ _ _ _  p0).symm)
 unfold message_Props
 refine le_cond (by simp only [EN]) (fun _ => ?_) (fun _ => ?_)
 ·exact le_ret (by first | rfl | simp only [EN, message_Props_out] <;> rfl)
 ·first | (simp only [EN]; exact message_Props_l4_ok fuel p0 p0 (List.length p0 : Int) 0) | exact message_Props_l4_ok fuel p0 p0 (List.length p0 : Int) 0
def C70 (Γ : Fun) (γ84 : Gm (Bool)) (γ85 : Gm (Bool)) (γ69 : Gm (Bool)) (γ86 : Gm (Int)) : CFun := updC (updC (updC (updC (bindC Γ) 84 topic_Valid_out γ84) 85 message_is_out γ85) 69 topic_Name_out γ69) 86 message_Props_out γ86
theorem T70 (Γ : Fun) (γ84 : Gm (Bool)) (γ85 : Gm (Bool)) (γ69 : Gm (Bool)) (γ86 : Gm (Int)) (Λ2 J : Lam) (p0 : api_Message) : bodyC SE (C70 Γ γ84 γ85 γ69 γ86) Λ2 J 70 [api_Message.av p0] [] [] =
 γ84 [.d (.str p0.Topic)] [] [] fun r0 =>
 cond (!r0) (
 (some (.ret [.d (.int .i64 12)] [] []))) (
 cond (decide ((List.length p0.Payload : Int) > 256)) (
 (some (.ret [.d (.int .i64 5)] [] []))) (
 γ85 [.d (.int .i64 p0.Level), .d (.int .i64 2)] [] [] fun r1 =>
 cond (!r1) (
 (some (.ret [.d (.int .i64 14)] [] []))) (
 γ85 [.d (.int .i64 p0.Priority), .d (.int .i64 9)] [] [] fun r2 =>
 cond (!r2) (
 (some (.ret [.d (.int .i64 1)] [] []))) (
 γ85 [.d (.int .i64 p0.Expires), .d (.int .i64 1099511627776)] [] [] fun r3 =>
 cond (!r3) (
 (some (.ret [.d (.int .i64 1)] [] []))) (
 cond (!(p0.From == ([] : Str))) (
 γ69 [.d (.str p0.From)] [] [] fun r4 =>
 cond (!r4) (
  (some (.ret [.d (.int .i64 11)] [] []))) (
 γ85 [.d (.int .i64 p0.Seq), .d (.int .i64 1099511627776)] [] [] fun r5 =>
 cond (!r5) (
  (some (.ret [.d (.int .i64 1)] [] []))) (
 γ86 [.d (.sl api_Prop.ks (List.map api_Prop.enc p0.Props))] [] [] fun r6 =>
 (some (.ret [.d (.int .i64 r6)] [] []))))) (
 γ85 [.d (.int .i64 p0.Seq), .d (.int .i64 1099511627776)] [] [] fun r7 =>
 cond (!r7) (
 (some (.ret [.d (.int .i64 1)] [] []))) (
 γ86 [.d (.sl api_Prop.ks (List.map api_Prop.enc p0.Props))] [] [] fun r8 =>
 (some (.ret [.d (.int .i64 r8)] [] []))))))))) := by kernel_rfl
abbrev X70 : CFun := C70 (callG SE good) (callT SE good 84 topic_Valid_out) (callT SE good 85 message_is_out) (callT SE good 69 topic_Name_out) (callT SE good 86 message_Props_out)
theorem Cr70 : C70 (callG SE good) (callT SE good 84 topic_Valid_out) (callT SE good 85 message_is_out) (callT SE good 69 topic_Name_out) (callT SE good 86 message_Props_out) = bindC (callG SE good) := by unfold C70; rw [updC_real (fun _ h => h), updC_real (fun _ h => h), updC_real (fun _ h => h), updC_real (fun _ h => h)]
theorem message_Check_ok (p0 : api_Message) : Le (Option.map message_Check_out (message_Check p0)) (callW SE 70 [api_Message.av p0] [] []) := by
 refine le_bodyC Cr70 rfl ?_
 refine Le.trans ?_ (le_of_eq (T70 _ _ _ _ _ _ _  p0).symm)
 unfold message_Check
 refine le_call (good := good) eX topic_Valid_inj (topic_Valid_ok p0.Topic) (fun r0 _ => ?_)
 refine lC ?_ ?_
 ·exact le_ret (by first | rfl | simp only [EN, message_Check_out] <;> rfl)
 ·refine lC ?_ ?_
  ·exact le_ret (by first | rfl | simp only [EN, message_Check_out] <;> rfl)
  ·refine le_call (good := good) eX message_is_inj (message_is_ok p0.Level 2) (fun r1 _ => ?_)
   refine lC ?_ ?_
   ·exact le_ret (by first | rfl | simp only [EN, message_Check_out] <;> rfl)
   ·refine le_call (good := good) eX message_is_inj (message_is_ok p0.Priority 9) (fun r2 _ => ?_)
    refine lC ?_ ?_
    ·exact le_ret (by first | rfl | simp only [EN, message_Check_out] <;> rfl)
    ·refine le_call (good := good) eX message_is_inj (message_is_ok p0.Expires 1099511627776) (fun r3 _ => ?_)
     refine lC ?_ ?_
     ·exact le_ret (by first | rfl | simp only [EN, message_Check_out] <;> rfl)
     ·refine lC ?_ ?_
      ·refine le_call (good := good) eX topic_Name_inj (topic_Name_ok p0.From) (fun r4 _ => ?_)
       refine lC ?_ ?_
       ·exact le_ret (by first | rfl | simp only [EN, message_Check_out] <;> rfl)
       ·refine le_call (good := good) eX message_is_inj (message_is_ok p0.Seq 1099511627776) (fun r5 _ => ?_)
        refine lC ?_ ?_
        ·exact le_ret (by first | rfl | simp only [EN, message_Check_out] <;> rfl)
        ·refine le_call (good := good) eX message_Props_inj (message_Props_ok p0.Props) (fun r6 _ => ?_)
         exact le_ret (by first | rfl | simp only [EN, message_Check_out] <;> rfl)
      ·refine le_call (good := good) eX message_is_inj (message_is_ok p0.Seq 1099511627776) (fun r7 _ => ?_)
       refine lC ?_ ?_
       ·exact le_ret (by first | rfl | simp only [EN, message_Check_out] <;> rfl)
       ·refine le_call (good := good) eX message_Props_inj (message_Props_ok p0.Props) (fun r8 _ => ?_)
        exact le_ret (by first | rfl | simp only [EN, message_Check_out] <;> rfl)
def C42 (Γ : Fun) (γ69 : Gm (Bool)) (γ39 : Gm (Bool)) (γ65 : Gm (Bool)) (γ70 : Gm (Int)) : CFun := updC (updC (updC (updC (bindC Γ) 69 topic_Name_out γ69) 39 packet_is_out γ39) 65 message_Same_out γ65) 70 message_Check_out γ70
theorem T42 (Γ : Fun) (γ69 : Gm (Bool)) (γ39 : Gm (Bool)) (γ65 : Gm (Bool)) (γ70 : Gm (Int)) (Λ2 J : Lam) (p0 : api_Packet) : bodyC SE (C42 Γ γ69 γ39 γ65 γ70) Λ2 J 42 [api_Packet.av p0] [] [] =
 γ69 [.d (.str p0.Client)] [] [] fun r0 =>
 cond (!r0) (
 (some (.ret [.d (.int .i64 11)] [] []))) (
 cond (!(p0.User == ([] : Str))) (
 γ69 [.d (.str p0.User)] [] [] fun r1 =>
 cond (!r1) (
  (some (.ret [.d (.int .i64 11)] [] []))) (
 γ39 [.d (.int .i64 p0.Keep), .d (.int .i64 0), .d (.int .i64 1099511627776)] [] [] fun r2 =>
 cond (!r2) (
  (some (.ret [.d (.int .i64 1)] [] []))) (
 γ39 [.d (.int .i64 p0.Expiry), .d (.int .i64 0), .d (.int .i64 1099511627776)] [] [] fun r3 =>
 cond (!r3) (
  (some (.ret [.d (.int .i64 1)] [] []))) (
 γ39 [.d (.int .i64 p0.Window), .d (.int .i64 1), .d (.int .i64 32)] [] [] fun r4 =>
 cond (!r4) (
  (some (.ret [.d (.int .i64 1)] [] []))) (
 cond (!p0.Will.Set) (
  cond (p0.Will.Delay != 0) (
  (some (.ret [.d (.int .i64 28)] [] []))) (
  γ65 [api_Message.av p0.Will.Message, .agg [.d (.str ([] : Str)), .d (.str ([] : Str)), .d (.int .i64 0), .d (.bool false), .d (.int .i64 0), .d (.int .i64 0), .d (.str ([] : Str)), .d (.int .i64 0), .d (.sl api_Prop.ks (List.map api_Prop.enc []))]] [] [] fun r5 =>
  cond (!r5) (
  (some (.ret [.d (.int .i64 28)] [] []))) (
  cond (!p0.Will.Set) (
  (some (.ret [.d (.int .i64 0)] [] []))) (
  γ39 [.d (.int .i64 p0.Will.Delay), .d (.int .i64 0), .d (.int .i64 1099511627776)] [] [] fun r6 =>
  cond (!r6) (
  (some (.ret [.d (.int .i64 1)] [] []))) (
  γ70 [api_Message.av p0.Will.Message] [] [] fun r7 =>
  (some (.ret [.d (.int .i64 r7)] [] []))))))) (
 cond (!p0.Will.Set) (
  (some (.ret [.d (.int .i64 0)] [] []))) (
 γ39 [.d (.int .i64 p0.Will.Delay), .d (.int .i64 0), .d (.int .i64 1099511627776)] [] [] fun r8 =>
 cond (!r8) (
  (some (.ret [.d (.int .i64 1)] [] []))) (
 γ70 [api_Message.av p0.Will.Message] [] [] fun r9 =>
 (some (.ret [.d (.int .i64 r9)] [] [])))))))))) (
 γ39 [.d (.int .i64 p0.Keep), .d (.int .i64 0), .d (.int .i64 1099511627776)] [] [] fun r10 =>
 cond (!r10) (
 (some (.ret [.d (.int .i64 1)] [] []))) (
 γ39 [.d (.int .i64 p0.Expiry), .d (.int .i64 0), .d (.int .i64 1099511627776)] [] [] fun r11 =>
 cond (!r11) (
 (some (.ret [.d (.int .i64 1)] [] []))) (
 γ39 [.d (.int .i64 p0.Window), .d (.int .i64 1), .d (.int .i64 32)] [] [] fun r12 =>
 cond (!r12) (
 (some (.ret [.d (.int .i64 1)] [] []))) (
 cond (!p0.Will.Set) (
 cond (p0.Will.Delay != 0) (
  (some (.ret [.d (.int .i64 28)] [] []))) (
 γ65 [api_Message.av p0.Will.Message, .agg [.d (.str ([] : Str)), .d (.str ([] : Str)), .d (.int .i64 0), .d (.bool false), .d (.int .i64 0), .d (.int .i64 0), .d (.str ([] : Str)), .d (.int .i64 0), .d (.sl api_Prop.ks (List.map api_Prop.enc []))]] [] [] fun r13 =>
 cond (!r13) (
  (some (.ret [.d (.int .i64 28)] [] []))) (
 cond (!p0.Will.Set) (
  (some (.ret [.d (.int .i64 0)] [] []))) (
 γ39 [.d (.int .i64 p0.Will.Delay), .d (.int .i64 0), .d (.int .i64 1099511627776)] [] [] fun r14 =>
 cond (!r14) (
  (some (.ret [.d (.int .i64 1)] [] []))) (
 γ70 [api_Message.av p0.Will.Message] [] [] fun r15 =>
 (some (.ret [.d (.int .i64 r15)] [] []))))))) (
 cond (!p0.Will.Set) (
 (some (.ret [.d (.int .i64 0)] [] []))) (
 γ39 [.d (.int .i64 p0.Will.Delay), .d (.int .i64 0), .d (.int .i64 1099511627776)] [] [] fun r16 =>
 cond (!r16) (
 (some (.ret [.d (.int .i64 1)] [] []))) (
 γ70 [api_Message.av p0.Will.Message] [] [] fun r17 =>
 (some (.ret [.d (.int .i64 r17)] [] [])))))))))) := by kernel_rfl
abbrev X42 : CFun := C42 (callG SE good) (callT SE good 69 topic_Name_out) (callT SE good 39 packet_is_out) (callT SE good 65 message_Same_out) (callT SE good 70 message_Check_out)
theorem Cr42 : C42 (callG SE good) (callT SE good 69 topic_Name_out) (callT SE good 39 packet_is_out) (callT SE good 65 message_Same_out) (callT SE good 70 message_Check_out) = bindC (callG SE good) := by unfold C42; rw [updC_real (fun _ h => h), updC_real (fun _ h => h), updC_real (fun _ h => h), updC_real (fun _ h => h)]
theorem packet_connect_ok (p0 : api_Packet) : Le (Option.map packet_connect_out (packet_connect p0)) (callW SE 42 [api_Packet.av p0] [] []) := by
 refine le_bodyC Cr42 rfl ?_
 refine Le.trans ?_ (le_of_eq (T42 _ _ _ _ _ _ _  p0).symm)
 unfold packet_connect
 refine le_call (good := good) eX topic_Name_inj (topic_Name_ok p0.Client) (fun r0 _ => ?_)
 refine lC ?_ ?_
 ·exact le_ret (by first | rfl | simp only [EN, packet_connect_out] <;> rfl)
 ·refine lC ?_ ?_
  ·refine le_call (good := good) eX topic_Name_inj (topic_Name_ok p0.User) (fun r1 _ => ?_)
   refine lC ?_ ?_
   ·exact le_ret (by first | rfl | simp only [EN, packet_connect_out] <;> rfl)
   ·refine le_call (good := good) eX packet_is_inj (packet_is_ok p0.Keep 0 1099511627776) (fun r2 _ => ?_)
    refine lC ?_ ?_
    ·exact le_ret (by first | rfl | simp only [EN, packet_connect_out] <;> rfl)
    ·refine le_call (good := good) eX packet_is_inj (packet_is_ok p0.Expiry 0 1099511627776) (fun r3 _ => ?_)
     refine lC ?_ ?_
     ·exact le_ret (by first | rfl | simp only [EN, packet_connect_out] <;> rfl)
     ·refine le_call (good := good) eX packet_is_inj (packet_is_ok p0.Window 1 32) (fun r4 _ => ?_)
      refine lC ?_ ?_
      ·exact le_ret (by first | rfl | simp only [EN, packet_connect_out] <;> rfl)
      ·refine lC ?_ ?_
       ·refine lC ?_ ?_
        ·exact le_ret (by first | rfl | simp only [EN, packet_connect_out] <;> rfl)
        ·refine le_call (good := good) eX message_Same_inj (by first | (simp only [EN]; exact message_Same_ok p0.Will.Message ((api_Message.mk ([] : Str) ([] : Str) 0 false 0 0 ([] : Str) 0 ([] : List api_Prop)))) | exact message_Same_ok p0.Will.Message ((api_Message.mk ([] : Str) ([] : Str) 0 false 0 0 ([] : Str) 0 ([] : List api_Prop)))) (fun r5 _ => ?_)
         refine lC ?_ ?_
         ·exact le_ret (by first | rfl | simp only [EN, packet_connect_out] <;> rfl)
         ·refine lC ?_ ?_
          ·exact le_ret (by first | rfl | simp only [EN, packet_connect_out] <;> rfl)
          ·refine le_call (good := good) eX packet_is_inj (packet_is_ok p0.Will.Delay 0 1099511627776) (fun r6 _ => ?_)
           refine lC ?_ ?_
           ·exact le_ret (by first | rfl | simp only [EN, packet_connect_out] <;> rfl)
           ·refine le_call (good := good) eX message_Check_inj (message_Check_ok p0.Will.Message) (fun r7 _ => ?_)
            exact le_ret (by first | rfl | simp only [EN, packet_connect_out] <;> rfl)
       ·refine lC ?_ ?_
        ·exact le_ret (by first | rfl | simp only [EN, packet_connect_out] <;> rfl)
        ·refine le_call (good := good) eX packet_is_inj (packet_is_ok p0.Will.Delay 0 1099511627776) (fun r8 _ => ?_)
         refine lC ?_ ?_
         ·exact le_ret (by first | rfl | simp only [EN, packet_connect_out] <;> rfl)
         ·refine le_call (good := good) eX message_Check_inj (message_Check_ok p0.Will.Message) (fun r9 _ => ?_)
          exact le_ret (by first | rfl | simp only [EN, packet_connect_out] <;> rfl)
  ·refine le_call (good := good) eX packet_is_inj (packet_is_ok p0.Keep 0 1099511627776) (fun r10 _ => ?_)
   refine lC ?_ ?_
   ·exact le_ret (by first | rfl | simp only [EN, packet_connect_out] <;> rfl)
   ·refine le_call (good := good) eX packet_is_inj (packet_is_ok p0.Expiry 0 1099511627776) (fun r11 _ => ?_)
    refine lC ?_ ?_
    ·exact le_ret (by first | rfl | simp only [EN, packet_connect_out] <;> rfl)
    ·refine le_call (good := good) eX packet_is_inj (packet_is_ok p0.Window 1 32) (fun r12 _ => ?_)
     refine lC ?_ ?_
     ·exact le_ret (by first | rfl | simp only [EN, packet_connect_out] <;> rfl)
     ·refine lC ?_ ?_
      ·refine lC ?_ ?_
       ·exact le_ret (by first | rfl | simp only [EN, packet_connect_out] <;> rfl)
       ·refine le_call (good := good) eX message_Same_inj (by first | (simp only [EN]; exact message_Same_ok p0.Will.Message ((api_Message.mk ([] : Str) ([] : Str) 0 false 0 0 ([] : Str) 0 ([] : List api_Prop)))) | exact message_Same_ok p0.Will.Message ((api_Message.mk ([] : Str) ([] : Str) 0 false 0 0 ([] : Str) 0 ([] : List api_Prop)))) (fun r13 _ => ?_)
        refine lC ?_ ?_
        ·exact le_ret (by first | rfl | simp only [EN, packet_connect_out] <;> rfl)
        ·refine lC ?_ ?_
         ·exact le_ret (by first | rfl | simp only [EN, packet_connect_out] <;> rfl)
         ·refine le_call (good := good) eX packet_is_inj (packet_is_ok p0.Will.Delay 0 1099511627776) (fun r14 _ => ?_)
          refine lC ?_ ?_
          ·exact le_ret (by first | rfl | simp only [EN, packet_connect_out] <;> rfl)
          ·refine le_call (good := good) eX message_Check_inj (message_Check_ok p0.Will.Message) (fun r15 _ => ?_)
           exact le_ret (by first | rfl | simp only [EN, packet_connect_out] <;> rfl)
      ·refine lC ?_ ?_
       ·exact le_ret (by first | rfl | simp only [EN, packet_connect_out] <;> rfl)
       ·refine le_call (good := good) eX packet_is_inj (packet_is_ok p0.Will.Delay 0 1099511627776) (fun r16 _ => ?_)
        refine lC ?_ ?_
        ·exact le_ret (by first | rfl | simp only [EN, packet_connect_out] <;> rfl)
        ·refine le_call (good := good) eX message_Check_inj (message_Check_ok p0.Will.Message) (fun r17 _ => ?_)
         exact le_ret (by first | rfl | simp only [EN, packet_connect_out] <;> rfl)
def C43 (Γ : Fun) (γ39 : Gm (Bool)) : CFun := updC (bindC Γ) 39 packet_is_out γ39
theorem T43 (Γ : Fun) (γ39 : Gm (Bool)) (Λ2 J : Lam) (p0 : Int) : bodyC SE (C43 Γ γ39) Λ2 J 43 [.d (.int .i64 p0)] [] [] =
 γ39 [.d (.int .i64 p0), .d (.int .i64 0), .d (.int .i64 29)] [] [] fun r0 =>
 (some (.ret [.d (.bool r0)] [] [])) := by kernel_rfl
abbrev X43 : CFun := C43 (callG SE good) (callT SE good 39 packet_is_out)
theorem Cr43 : C43 (callG SE good) (callT SE good 39 packet_is_out) = bindC (callG SE good) := by unfold C43; rw [updC_real (fun _ h => h)]
theorem packet_code_ok (p0 : Int) : Le (Option.map packet_code_out (packet_code p0)) (callW SE 43 [.d (.int .i64 p0)] [] []) := by
 refine le_bodyC Cr43 rfl ?_
 refine Le.trans ?_ (le_of_eq (T43 _ _ _ _  p0).symm)
 unfold packet_code
 refine le_call (good := good) eX packet_is_inj (packet_is_ok p0 0 29) (fun r0 _ => ?_)
 exact le_ret (by first | rfl | simp only [EN, packet_code_out] <;> rfl)
def C45 (Γ : Fun) (γ39 : Gm (Bool)) : CFun := updC (bindC Γ) 39 packet_is_out γ39
theorem T45 (Γ : Fun) (γ39 : Gm (Bool)) (Λ2 J : Lam) (p0 : Int) : bodyC SE (C45 Γ γ39) Λ2 J 45 [.d (.int .i64 p0)] [] [] =
 γ39 [.d (.int .i64 p0), .d (.int .i64 1), .d (.int .i64 65535)] [] [] fun r0 =>
 cond (!r0) (
 (some (.ret [.d (.int .i64 15)] [] []))) (
 (some (.ret [.d (.int .i64 0)] [] []))) := by kernel_rfl
abbrev X45 : CFun := C45 (callG SE good) (callT SE good 39 packet_is_out)
theorem Cr45 : C45 (callG SE good) (callT SE good 39 packet_is_out) = bindC (callG SE good) := by unfold C45; rw [updC_real (fun _ h => h)]
theorem packet_ident_ok (p0 : Int) : Le (Option.map packet_ident_out (packet_ident p0)) (callW SE 45 [.d (.int .i64 p0)] [] []) := by
 refine le_bodyC Cr45 rfl ?_
 refine Le.trans ?_ (le_of_eq (T45 _ _ _ _  p0).symm)
 unfold packet_ident
 refine le_call (good := good) eX packet_is_inj (packet_is_ok p0 1 65535) (fun r0 _ => ?_)
 refine lC ?_ ?_
 ·exact le_ret (by first | rfl | simp only [EN, packet_ident_out] <;> rfl)
 ·exact le_ret (by first | rfl | simp only [EN, packet_ident_out] <;> rfl)
def C44 (Γ : Fun) (γ70 : Gm (Int)) (γ45 : Gm (Int)) : CFun := updC (updC (bindC Γ) 70 message_Check_out γ70) 45 packet_ident_out γ45
theorem T44 (Γ : Fun) (γ70 : Gm (Int)) (γ45 : Gm (Int)) (Λ2 J : Lam) (p0 : api_Packet) : bodyC SE (C44 Γ γ70 γ45) Λ2 J 44 [api_Packet.av p0] [] [] =
 γ70 [api_Message.av p0.Message] [] [] fun r0 =>
 cond (r0 != 0) (
 (some (.ret [.d (.int .i64 r0)] [] []))) (
 cond (p0.Message.Level != 0) (
 γ45 [.d (.int .i64 p0.ID)] [] [] fun r1 =>
 (some (.ret [.d (.int .i64 r1)] [] []))) (
 cond (p0.ID != 0) (
 (some (.ret [.d (.int .i64 15)] [] []))) (
 cond p0.Dup (
 (some (.ret [.d (.int .i64 28)] [] []))) (
 (some (.ret [.d (.int .i64 0)] [] [])))))) := by kernel_rfl
abbrev X44 : CFun := C44 (callG SE good) (callT SE good 70 message_Check_out) (callT SE good 45 packet_ident_out)
theorem Cr44 : C44 (callG SE good) (callT SE good 70 message_Check_out) (callT SE good 45 packet_ident_out) = bindC (callG SE good) := by unfold C44; rw [updC_real (fun _ h => h), updC_real (fun _ h => h)]
theorem packet_publish_ok (p0 : api_Packet) : Le (Option.map packet_publish_out (packet_publish p0)) (callW SE 44 [api_Packet.av p0] [] []) := by
 refine le_bodyC Cr44 rfl ?_
 refine Le.trans ?_ (le_of_eq (T44 _ _ _ _ _  p0).symm)
 unfold packet_publish
 refine le_call (good := good) eX message_Check_inj (message_Check_ok p0.Message) (fun r0 _ => ?_)
 refine lC ?_ ?_
 ·exact le_ret (by first | rfl | simp only [EN, packet_publish_out] <;> rfl)
 ·refine lC ?_ ?_
  ·refine le_call (good := good) eX packet_ident_inj (packet_ident_ok p0.ID) (fun r1 _ => ?_)
   exact le_ret (by first | rfl | simp only [EN, packet_publish_out] <;> rfl)
  ·refine lC ?_ ?_
   ·exact le_ret (by first | rfl | simp only [EN, packet_publish_out] <;> rfl)
   ·refine lC ?_ ?_
    ·exact le_ret (by first | rfl | simp only [EN, packet_publish_out] <;> rfl)
    ·exact le_ret (by first | rfl | simp only [EN, packet_publish_out] <;> rfl)
def C71 (Γ : Fun) (γ39 : Gm (Bool)) : CFun := updC (bindC Γ) 39 packet_is_out γ39
theorem T71 (Γ : Fun) (γ39 : Gm (Bool)) (Λ2 J : Lam) (p0 : Int) (p1 : Int) : bodyC SE (C71 Γ γ39) Λ2 J 71 [.d (.int .i64 p0), .d (.int .i64 p1)] [] [] =
 γ39 [.d (.int .i64 p0), .d (.int .i64 1), .d (.int .i64 65535)] [] [] fun r0 =>
 cond (!r0) (
 (some (.ret [.d (.int .i64 15)] [] []))) (
 cond (p1 == 0) (
 (some (.ret [.d (.int .i64 1)] [] []))) (
 cond (decide (p1 > 32)) (
 (some (.ret [.d (.int .i64 5)] [] []))) (
 (some (.ret [.d (.int .i64 0)] [] []))))) := by kernel_rfl
abbrev X71 : CFun := C71 (callG SE good) (callT SE good 39 packet_is_out)
theorem Cr71 : C71 (callG SE good) (callT SE good 39 packet_is_out) = bindC (callG SE good) := by unfold C71; rw [updC_real (fun _ h => h)]
theorem packet_counted_ok (p0 : Int) (p1 : Int) : Le (Option.map packet_counted_out (packet_counted p0 p1)) (callW SE 71 [.d (.int .i64 p0), .d (.int .i64 p1)] [] []) := by
 refine le_bodyC Cr71 rfl ?_
 refine Le.trans ?_ (le_of_eq (T71 _ _ _ _  p0 p1).symm)
 unfold packet_counted
 refine le_call (good := good) eX packet_is_inj (packet_is_ok p0 1 65535) (fun r0 _ => ?_)
 refine lC ?_ ?_
 ·exact le_ret (by first | rfl | simp only [EN, packet_counted_out] <;> rfl)
 ·refine lC ?_ ?_
  ·exact le_ret (by first | rfl | simp only [EN, packet_counted_out] <;> rfl)
  ·refine lC ?_ ?_
   ·exact le_ret (by first | rfl | simp only [EN, packet_counted_out] <;> rfl)
   ·exact le_ret (by first | rfl | simp only [EN, packet_counted_out] <;> rfl)
def C100 (Γ : Fun)  : CFun := bindC Γ
theorem T100 (Γ : Fun)  (Λ2 J : Lam) (p0 : Str) (p1 : Str) : bodyC SE (C100 Γ) Λ2 J 100 [.d (.str p0), .d (.str p1)] [] [] =
 cond (decide ((List.length p0 : Int) ≥ (List.length p1 : Int))) (
 cond (decide (0 ≤ (List.length p1 : Int)) && decide ((List.length p1 : Int) ≤ ((List.length p0) : Int))) (
  (some (.ret [.d (.bool ((cutL p0 none (some (List.length p1 : Int))) == p1))] [] []))) none) (
 (some (.ret [.d (.bool false)] [] []))) := by kernel_rfl
abbrev X100 : CFun := C100 (callG SE good)
theorem Cr100 : C100 (callG SE good) = bindC (callG SE good) := by unfold C100; rfl
theorem stringslite_HasPrefix_ok (p0 : Str) (p1 : Str) : Le (Option.map stringslite_HasPrefix_out (stringslite_HasPrefix p0 p1)) (callW SE 100 [.d (.str p0), .d (.str p1)] [] []) := by
 refine le_bodyC Cr100 rfl ?_
 refine Le.trans ?_ (le_of_eq (T100 _ _ _  p0 p1).symm)
 unfold stringslite_HasPrefix
 refine lC ?_ ?_
 ·refine lF ?_
  exact le_ret (by first | rfl | simp only [EN, stringslite_HasPrefix_out] <;> rfl)
 ·exact le_ret (by first | rfl | simp only [EN, stringslite_HasPrefix_out] <;> rfl)
def C102 (Γ : Fun) (γ100 : Gm (Bool)) : CFun := updC (bindC Γ) 100 stringslite_HasPrefix_out γ100
theorem T102 (Γ : Fun) (γ100 : Gm (Bool)) (Λ2 J : Lam) (p0 : Str) (p1 : Str) : bodyC SE (C102 Γ γ100) Λ2 J 102 [.d (.str p0), .d (.str p1)] [] [] =
 γ100 [.d (.str p0), .d (.str p1)] [] [] fun r0 =>
 cond (!r0) (
 (some (.ret [.d (.str p0), .d (.bool false)] [] []))) (
 cond (decide (0 ≤ (List.length p1 : Int)) && decide ((List.length p1 : Int) ≤ ((List.length p0) : Int))) (
 (some (.ret [.d (.str (cutL p0 (some (List.length p1 : Int)) none)), .d (.bool true)] [] []))) none) := by kernel_rfl
abbrev X102 : CFun := C102 (callG SE good) (callT SE good 100 stringslite_HasPrefix_out)
theorem Cr102 : C102 (callG SE good) (callT SE good 100 stringslite_HasPrefix_out) = bindC (callG SE good) := by unfold C102; rw [updC_real (fun _ h => h)]
theorem stringslite_CutPrefix_ok (p0 : Str) (p1 : Str) : Le (Option.map stringslite_CutPrefix_out (stringslite_CutPrefix p0 p1)) (callW SE 102 [.d (.str p0), .d (.str p1)] [] []) := by
 refine le_bodyC Cr102 rfl ?_
 refine Le.trans ?_ (le_of_eq (T102 _ _ _ _  p0 p1).symm)
 unfold stringslite_CutPrefix
 refine le_call (good := good) eX stringslite_HasPrefix_inj (stringslite_HasPrefix_ok p0 p1) (fun r0 _ => ?_)
 refine lC ?_ ?_
 ·exact le_ret (by first | rfl | simp only [EN, stringslite_CutPrefix_out] <;> rfl)
 ·refine lF ?_
  exact le_ret (by first | rfl | simp only [EN, stringslite_CutPrefix_out] <;> rfl)
def C97 (Γ : Fun) (γ102 : Gm (Str × Bool)) : CFun := updC (bindC Γ) 102 stringslite_CutPrefix_out γ102
theorem T97 (Γ : Fun) (γ102 : Gm (Str × Bool)) (Λ2 J : Lam) (p0 : Str) (p1 : Str) : bodyC SE (C97 Γ γ102) Λ2 J 97 [.d (.str p0), .d (.str p1)] [] [] =
 γ102 [.d (.str p0), .d (.str p1)] [] [] fun r0 =>
 (some (.ret [.d (.str r0.1), .d (.bool r0.2)] [] [])) := by kernel_rfl
abbrev X97 : CFun := C97 (callG SE good) (callT SE good 102 stringslite_CutPrefix_out)
theorem Cr97 : C97 (callG SE good) (callT SE good 102 stringslite_CutPrefix_out) = bindC (callG SE good) := by unfold C97; rw [updC_real (fun _ h => h)]
theorem strings_CutPrefix_ok (p0 : Str) (p1 : Str) : Le (Option.map strings_CutPrefix_out (strings_CutPrefix p0 p1)) (callW SE 97 [.d (.str p0), .d (.str p1)] [] []) := by
 refine le_bodyC Cr97 rfl ?_
 refine Le.trans ?_ (le_of_eq (T97 _ _ _ _  p0 p1).symm)
 unfold strings_CutPrefix
 refine le_call (good := good) eX stringslite_CutPrefix_inj (stringslite_CutPrefix_ok p0 p1) (fun r0 _ => ?_)
 exact le_ret (by first | rfl | simp only [EN, strings_CutPrefix_out] <;> rfl)
def C107 (Γ : Fun)  : CFun := bindC Γ
theorem T107 (Γ : Fun)  (Λ2 J : Lam) (p0 : Str) (p1 : Int) : bodyC SE (C107 Γ) Λ2 J 107 [.d (.str p0), .d (.int .u8 p1)] [] [] =
 (some (.ret [.d (.int .i64 (Lib.indexByte p0 (UInt8.ofNat (Int.toNat p1)) : Int))] [] [])) := by kernel_rfl
abbrev X107 : CFun := C107 (callG SE good)
theorem Cr107 : C107 (callG SE good) = bindC (callG SE good) := by unfold C107; rfl
theorem stringslite_IndexByte_ok (p0 : Str) (p1 : Int) : Le (Option.map stringslite_IndexByte_out (stringslite_IndexByte p0 p1)) (callW SE 107 [.d (.str p0), .d (.int .u8 p1)] [] []) := by
 refine le_bodyC Cr107 rfl ?_
 refine Le.trans ?_ (le_of_eq (T107 _ _ _  p0 p1).symm)
 unfold stringslite_IndexByte
 exact le_ret (by first | rfl | simp only [EN, stringslite_IndexByte_out] <;> rfl)
def C105 (Γ : Fun) (γ107 : Gm (Int)) : CFun := updC (bindC Γ) 107 stringslite_IndexByte_out γ107
theorem T105 (Γ : Fun) (γ107 : Gm (Int)) (Λ2 J : Lam) (p0 : Str) (p1 : Str) : bodyC SE (C105 Γ γ107) Λ2 J 105 [.d (.str p0), .d (.str p1)] [] [] =
 cond ((List.length p1 : Int) == 0) (
 (some (.ret [.d (.int .i64 0)] [] []))) (
 cond (p1 == p0) (
 (some (.ret [.d (.int .i64 0)] [] []))) (
 cond ((List.length p1 : Int) == 1) (
 cond (decide (0 ≤ 0) && decide (0 < (List.length p1 : Int))) (
  γ107 [.d (.str p0), .d (.int .u8 (UInt8.toNat (List.getD p1 (Int.toNat 0) 0) : Int))] [] [] fun r0 =>
  (some (.ret [.d (.int .i64 r0)] [] []))) none) (
 cond (decide ((List.length p1 : Int) ≥ (List.length p0 : Int))) (
 (some (.ret [.d (.int .i64 (-1))] [] []))) none))) := by kernel_rfl
abbrev X105 : CFun := C105 (callG SE good) (callT SE good 107 stringslite_IndexByte_out)
theorem Cr105 : C105 (callG SE good) (callT SE good 107 stringslite_IndexByte_out) = bindC (callG SE good) := by unfold C105; rw [updC_real (fun _ h => h)]
theorem stringslite_Index_ok (p0 : Str) (p1 : Str) : Le (Option.map stringslite_Index_out (stringslite_Index p0 p1)) (callW SE 105 [.d (.str p0), .d (.str p1)] [] []) := by
 refine le_bodyC Cr105 rfl ?_
 refine Le.trans ?_ (le_of_eq (T105 _ _ _ _  p0 p1).symm)
 unfold stringslite_Index
 refine lC ?_ ?_
 ·exact le_ret (by first | rfl | simp only [EN, stringslite_Index_out] <;> rfl)
 ·refine lC ?_ ?_
  ·exact le_ret (by first | rfl | simp only [EN, stringslite_Index_out] <;> rfl)
  ·refine lC ?_ ?_
   ·refine lF ?_
    refine le_call (good := good) eX stringslite_IndexByte_inj (stringslite_IndexByte_ok p0 (UInt8.toNat (List.getD p1 (Int.toNat 0) 0) : Int)) (fun r0 _ => ?_)
    exact le_ret (by first | rfl | simp only [EN, stringslite_Index_out] <;> rfl)
   ·refine lF ?_
    exact le_ret (by first | rfl | simp only [EN, stringslite_Index_out] <;> rfl)
def C103 (Γ : Fun) (γ105 : Gm (Int)) : CFun := updC (bindC Γ) 105 stringslite_Index_out γ105
theorem T103 (Γ : Fun) (γ105 : Gm (Int)) (Λ2 J : Lam) (p0 : Str) (p1 : Str) : bodyC SE (C103 Γ γ105) Λ2 J 103 [.d (.str p0), .d (.str p1)] [] [] =
 γ105 [.d (.str p0), .d (.str p1)] [] [] fun r0 =>
 cond (decide (r0 ≥ 0)) (
 cond (decide (0 ≤ r0) && decide (r0 ≤ ((List.length p0) : Int))) (
  cond (decide (0 ≤ (IntKind.wrap .i64 (r0 + (List.length p1 : Int)))) && decide ((IntKind.wrap .i64 (r0 + (List.length p1 : Int))) ≤ ((List.length p0) : Int))) (
  (some (.ret [.d (.str (cutL p0 none (some r0))), .d (.str (cutL p0 (some (IntKind.wrap .i64 (r0 + (List.length p1 : Int)))) none)), .d (.bool true)] [] []))) none) none) (
 (some (.ret [.d (.str p0), .d (.str ([] : Str)), .d (.bool false)] [] []))) := by kernel_rfl
abbrev X103 : CFun := C103 (callG SE good) (callT SE good 105 stringslite_Index_out)
theorem Cr103 : C103 (callG SE good) (callT SE good 105 stringslite_Index_out) = bindC (callG SE good) := by unfold C103; rw [updC_real (fun _ h => h)]
theorem stringslite_Cut_ok (p0 : Str) (p1 : Str) : Le (Option.map stringslite_Cut_out (stringslite_Cut p0 p1)) (callW SE 103 [.d (.str p0), .d (.str p1)] [] []) := by
 refine le_bodyC Cr103 rfl ?_
 refine Le.trans ?_ (le_of_eq (T103 _ _ _ _  p0 p1).symm)
 unfold stringslite_Cut
 refine le_call (good := good) eX stringslite_Index_inj (stringslite_Index_ok p0 p1) (fun r0 _ => ?_)
 refine lC ?_ ?_
 ·refine lF ?_
  refine lF ?_
  exact le_ret (by first | rfl | simp only [EN, stringslite_Cut_out] <;> rfl)
 ·exact le_ret (by first | rfl | simp only [EN, stringslite_Cut_out] <;> rfl)
def C98 (Γ : Fun) (γ103 : Gm (Str × Str × Bool)) : CFun := updC (bindC Γ) 103 stringslite_Cut_out γ103
theorem T98 (Γ : Fun) (γ103 : Gm (Str × Str × Bool)) (Λ2 J : Lam) (p0 : Str) (p1 : Str) : bodyC SE (C98 Γ γ103) Λ2 J 98 [.d (.str p0), .d (.str p1)] [] [] =
 γ103 [.d (.str p0), .d (.str p1)] [] [] fun r0 =>
 (some (.ret [.d (.str r0.1), .d (.str r0.2.1), .d (.bool r0.2.2)] [] [])) := by kernel_rfl
abbrev X98 : CFun := C98 (callG SE good) (callT SE good 103 stringslite_Cut_out)
theorem Cr98 : C98 (callG SE good) (callT SE good 103 stringslite_Cut_out) = bindC (callG SE good) := by unfold C98; rw [updC_real (fun _ h => h)]
theorem strings_Cut_ok (p0 : Str) (p1 : Str) : Le (Option.map strings_Cut_out (strings_Cut p0 p1)) (callW SE 98 [.d (.str p0), .d (.str p1)] [] []) := by
 refine le_bodyC Cr98 rfl ?_
 refine Le.trans ?_ (le_of_eq (T98 _ _ _ _  p0 p1).symm)
 unfold strings_Cut
 refine le_call (good := good) eX stringslite_Cut_inj (stringslite_Cut_ok p0 p1) (fun r0 _ => ?_)
 exact le_ret (by first | rfl | simp only [EN, strings_Cut_out] <;> rfl)
def C113 (Γ : Fun) (γ105 : Gm (Int)) : CFun := updC (bindC Γ) 105 stringslite_Index_out γ105
theorem T113 (Γ : Fun) (γ105 : Gm (Int)) (Λ2 J : Lam) (p0 : Str) (p1 : Str) : bodyC SE (C113 Γ γ105) Λ2 J 113 [.d (.str p0), .d (.str p1)] [] [] =
 γ105 [.d (.str p0), .d (.str p1)] [] [] fun r0 =>
 (some (.ret [.d (.int .i64 r0)] [] [])) := by kernel_rfl
abbrev X113 : CFun := C113 (callG SE good) (callT SE good 105 stringslite_Index_out)
theorem Cr113 : C113 (callG SE good) (callT SE good 105 stringslite_Index_out) = bindC (callG SE good) := by unfold C113; rw [updC_real (fun _ h => h)]
theorem strings_Index_ok (p0 : Str) (p1 : Str) : Le (Option.map strings_Index_out (strings_Index p0 p1)) (callW SE 113 [.d (.str p0), .d (.str p1)] [] []) := by
 refine le_bodyC Cr113 rfl ?_
 refine Le.trans ?_ (le_of_eq (T113 _ _ _ _  p0 p1).symm)
 unfold strings_Index
 refine le_call (good := good) eX stringslite_Index_inj (stringslite_Index_ok p0 p1) (fun r0 _ => ?_)
 exact le_ret (by first | rfl | simp only [EN, strings_Index_out] <;> rfl)
def C112 (Γ : Fun) (γ113 : Gm (Int)) : CFun := updC (bindC Γ) 113 strings_Index_out γ113
def R112_6 (C : CFun) (Λ2 J : Lam) (a0 : Str) (a1 : Str) (a2 : Int) : Res := lab SE C Λ2 J 112 0 [1, 1, 1, 1, 0] (stoOf [(0, .d (.str a0)), (1, .d (.str a1)), (5, .d (.int .i64 a2))] [] [] [] [])
theorem T112 (Γ : Fun) (γ113 : Gm (Int)) (Λ2 J : Lam) (p0 : Str) (p1 : Str) : bodyC SE (C112 Γ γ113) Λ2 J 112 [.d (.str p0), .d (.str p1)] [] [] =
 cond ((List.length p1 : Int) == 0) (
 none) (
 cond ((List.length p1 : Int) == 1) (
 cond (decide (0 ≤ 0) && decide (0 < (List.length p1 : Int))) (
  (some (.ret [.d (.int .i64 (Lib.countByte p0 (UInt8.ofNat (Int.toNat (UInt8.toNat (List.getD p1 (Int.toNat 0) 0) : Int))) : Int))] [] []))) none) (
 R112_6 (C112 Γ γ113) Λ2 J p0 p1 0)) := by kernel_rfl
theorem T112_6 (Γ : Fun) (γ113 : Gm (Int)) (Λ2 J : Lam) (x0 : Str) (x1 : Str) (x5 : Int) : labU SE (C112 Γ γ113) Λ2 J 112 0 [1, 1, 1, 1, 0] (stoOf [(0, .d (.str x0)), (1, .d (.str x1)), (5, .d (.int .i64 x5))] [] [] [] []) =
 γ113 [.d (.str x0), .d (.str x1)] [] [] fun r0 =>
 cond (r0 == (-1)) (
 (some (.ret [.d (.int .i64 x5)] [] []))) (
 cond (decide (0 ≤ (IntKind.wrap .i64 (r0 + (List.length x1 : Int)))) && decide ((IntKind.wrap .i64 (r0 + (List.length x1 : Int))) ≤ ((List.length x0) : Int))) (
 R112_6 (C112 Γ γ113) Λ2 J (cutL x0 (some (IntKind.wrap .i64 (r0 + (List.length x1 : Int)))) none) x1 (IntKind.wrap .i64 (x5 + 1))) none) := by kernel_rfl
abbrev X112 : CFun := C112 (callG SE good) (callT SE good 113 strings_Index_out)
theorem Cr112 : C112 (callG SE good) (callT SE good 113 strings_Index_out) = bindC (callG SE good) := by unfold C112; rw [updC_real (fun _ h => h)]
noncomputable abbrev Q112_6 (a0 : Str) (a1 : Str) (a2 : Int) : Res := R112_6 X112 (lam2 SE (callG SE good) (SE.hl 112) (SE.hr 112)) (J0 SE X112) a0 a1 a2
theorem strings_Count_l6_ok : ∀ (fu : Nat) (x0 : Str) (x1 : Str) (x5 : Int), Le (Option.map strings_Count_out (strings_Count_l6 fu x0 x1 x5)) (Q112_6 x0 x1 x5) := by
 intro fu
 induction fu with
 | zero => intros; exact le_none
 | succ fu ih =>
  intro x0 x1 x5
  refine Le.trans ?_ (le_of_eq ((lab_realC Cr112).trans (T112_6 _ _ _ _  x0 x1 x5)).symm)
  unfold strings_Count_l6
  refine le_call (good := good) eX strings_Index_inj (strings_Index_ok x0 x1) (fun r0 _ => ?_)
  refine lC ?_ ?_
  ·exact le_ret (by first | rfl | simp only [EN, strings_Count_out] <;> rfl)
  ·refine lF ?_
   exact ih (cutL x0 (some (IntKind.wrap .i64 (r0 + (List.length x1 : Int)))) none) x1 (IntKind.wrap .i64 (x5 + 1))
theorem strings_Count_ok (p0 : Str) (p1 : Str) : Le (Option.map strings_Count_out (strings_Count p0 p1)) (callW SE 112 [.d (.str p0), .d (.str p1)] [] []) := by
 refine le_bodyC Cr112 rfl ?_
 refine Le.trans ?_ (le_of_eq (T112 _ _ _ _  p0 p1).symm)
 unfold strings_Count
 refine lC ?_ ?_
 ·exact le_none
 ·refine lC ?_ ?_
  ·refine lF ?_
   exact le_ret (by first | rfl | simp only [EN, strings_Count_out] <;> rfl)
  ·exact strings_Count_l6_ok fuel p0 p1 0
def C106 (Γ : Fun) (γ112 : Gm (Int)) (γ113 : Gm (Int)) : CFun := updC (updC (bindC Γ) 112 strings_Count_out γ112) 113 strings_Index_out γ113
def R106_17 (C : CFun) (Λ2 J : Lam) (a0 : Str) (a1 : Int) (a2 : (List (List D))) : Res := lab SE C Λ2 J 106 0 [1, 1, 1, 1, 1, 1, 1, 1, 1, 0] (stoOf [(0, .d (.str a0)), (9, .row 3009), (10, .d (.int .i64 a1))] [] [] [] [(3009, ⟨[.str], 9, 16, a2⟩)])
def R106_11 (C : CFun) (Λ2 J : Lam) (a0 : Str) (a1 : Str) (a2 : Int) (a3 : Int) (a4 : Int) (a5 : (List (List D))) : Res := lab SE C Λ2 J 106 0 [1, 1, 1, 1, 1, 1, 1, 1, 0, 0] (stoOf [(0, .d (.str a0)), (1, .d (.str a1)), (2, .d (.int .i64 a2)), (3, .d (.int .i64 a3)), (9, .row 3009), (10, .d (.int .i64 a4))] [] [] [] [(3009, ⟨[.str], 9, 16, a5⟩)])
def R106_7 (C : CFun) (Λ2 J : Lam) (a0 : Str) (a1 : Str) (a2 : Int) (a3 : Int) : Res := lab SE C Λ2 J 106 0 [1, 1, 1, 1, 0] (stoOf [(0, .d (.str a0)), (1, .d (.str a1)), (2, .d (.int .i64 a2)), (3, .d (.int .i64 a3))] [] [] [] [])
theorem T106 (Γ : Fun) (γ112 : Gm (Int)) (γ113 : Gm (Int)) (Λ2 J : Lam) (p0 : Str) (p1 : Str) (p2 : Int) (p3 : Int) : bodyC SE (C106 Γ γ112 γ113) Λ2 J 106 [.d (.str p0), .d (.str p1), .d (.int .i64 p2), .d (.int .i64 p3)] [] [] =
 cond (p3 == 0) (
 (some (.ret [.d (.sl [.str] (List.map encS []))] [] []))) (
 cond (p1 == ([] : Str)) (
 none) (
 cond (decide (p3 < 0)) (
 γ112 [.d (.str p0), .d (.str p1)] [] [] fun r0 =>
 R106_7 (C106 Γ γ112 γ113) Λ2 J p0 p1 p2 (IntKind.wrap .i64 (r0 + 1))) (
 R106_7 (C106 Γ γ112 γ113) Λ2 J p0 p1 p2 p3))) := by kernel_rfl
theorem T106_17 (Γ : Fun) (γ112 : Gm (Int)) (γ113 : Gm (Int)) (Λ2 J : Lam) (x0 : Str) (x10 : Int) (w3009 : (List Str)) : labU SE (C106 Γ γ112 γ113) Λ2 J 106 0 [1, 1, 1, 1, 1, 1, 1, 1, 1, 0] (stoOf [(0, .d (.str x0)), (9, .row 3009), (10, .d (.int .i64 x10))] [] [] [] [(3009, ⟨[.str], 9, 16, (List.map encS w3009)⟩)]) =
 cond (decide (0 ≤ x10) && decide (x10 < (List.length (List.map encS w3009) : Int))) (
 cond (decide (0 ≤ (IntKind.wrap .i64 (x10 + 1))) && decide ((IntKind.wrap .i64 (x10 + 1)) ≤ ((List.length (setE (List.map encS w3009) (Int.toNat x10) 0 [D.str x0])) : Int))) (
  (some (.ret [.d (.sl [.str] (List.take ((Int.toNat (IntKind.wrap .i64 (x10 + 1))) - 0) (List.drop 0 (setE (List.map encS w3009) (Int.toNat x10) 0 [D.str x0]))))] [] []))) none) none := by kernel_rfl
theorem T106_11 (Γ : Fun) (γ112 : Gm (Int)) (γ113 : Gm (Int)) (Λ2 J : Lam) (x0 : Str) (x1 : Str) (x2 : Int) (x3 : Int) (x10 : Int) (w3009 : (List Str)) : labU SE (C106 Γ γ112 γ113) Λ2 J 106 0 [1, 1, 1, 1, 1, 1, 1, 1, 0, 0] (stoOf [(0, .d (.str x0)), (1, .d (.str x1)), (2, .d (.int .i64 x2)), (3, .d (.int .i64 x3)), (9, .row 3009), (10, .d (.int .i64 x10))] [] [] [] [(3009, ⟨[.str], 9, 16, (List.map encS w3009)⟩)]) =
 cond (decide (x10 < x3)) (
 γ113 [.d (.str x0), .d (.str x1)] [] [] fun r1 =>
 cond (decide (r1 < 0)) (
  R106_17 (C106 Γ γ112 γ113) Λ2 J x0 x10 (List.map encS w3009)) (
 cond (decide (0 ≤ (IntKind.wrap .i64 (r1 + x2))) && decide ((IntKind.wrap .i64 (r1 + x2)) ≤ ((List.length x0) : Int))) (
  cond (decide (0 ≤ x10) && decide (x10 < (List.length (List.map encS w3009) : Int))) (
  cond (decide (0 ≤ (IntKind.wrap .i64 (r1 + (List.length x1 : Int)))) && decide ((IntKind.wrap .i64 (r1 + (List.length x1 : Int))) ≤ ((List.length x0) : Int))) (
   R106_11 (C106 Γ γ112 γ113) Λ2 J (cutL x0 (some (IntKind.wrap .i64 (r1 + (List.length x1 : Int)))) none) x1 x2 x3 (IntKind.wrap .i64 (x10 + 1)) ((setE (List.map encS w3009) (Int.toNat x10) 0 [D.str (cutL x0 none (some (IntKind.wrap .i64 (r1 + x2))))]))) none) none) none)) (
 R106_17 (C106 Γ γ112 γ113) Λ2 J x0 x10 (List.map encS w3009)) := by kernel_rfl
theorem T106_7 (Γ : Fun) (γ112 : Gm (Int)) (γ113 : Gm (Int)) (Λ2 J : Lam) (x0 : Str) (x1 : Str) (x2 : Int) (x3 : Int) : labU SE (C106 Γ γ112 γ113) Λ2 J 106 0 [1, 1, 1, 1, 0] (stoOf [(0, .d (.str x0)), (1, .d (.str x1)), (2, .d (.int .i64 x2)), (3, .d (.int .i64 x3))] [] [] [] []) =
 cond (decide (0 ≤ (if (IntKind.wrap .i64 ((List.length x0 : Int) + 1)) < x3 then (IntKind.wrap .i64 ((List.length x0 : Int) + 1)) else x3)) && decide ((if (IntKind.wrap .i64 ((List.length x0 : Int) + 1)) < x3 then (IntKind.wrap .i64 ((List.length x0 : Int) + 1)) else x3) ≤ (if (IntKind.wrap .i64 ((List.length x0 : Int) + 1)) < x3 then (IntKind.wrap .i64 ((List.length x0 : Int) + 1)) else x3)) && decide ((if (IntKind.wrap .i64 ((List.length x0 : Int) + 1)) < x3 then (IntKind.wrap .i64 ((List.length x0 : Int) + 1)) else x3) * 16 ≤ 281474976710656)) (
 R106_11 (C106 Γ γ112 γ113) Λ2 J x0 x1 x2 ((IntKind.wrap .i64 ((if (IntKind.wrap .i64 ((List.length x0 : Int) + 1)) < x3 then (IntKind.wrap .i64 ((List.length x0 : Int) + 1)) else x3) - 1))) 0 ((List.replicate (Int.toNat (if (IntKind.wrap .i64 ((List.length x0 : Int) + 1)) < x3 then (IntKind.wrap .i64 ((List.length x0 : Int) + 1)) else x3)) [D.str ([] : Str)]))) none := by kernel_rfl
abbrev X106 : CFun := C106 (callG SE good) (callT SE good 112 strings_Count_out) (callT SE good 113 strings_Index_out)
theorem Cr106 : C106 (callG SE good) (callT SE good 112 strings_Count_out) (callT SE good 113 strings_Index_out) = bindC (callG SE good) := by unfold C106; rw [updC_real (fun _ h => h), updC_real (fun _ h => h)]
noncomputable abbrev Q106_17 (a0 : Str) (a1 : Int) (a2 : (List (List D))) : Res := R106_17 X106 (lam2 SE (callG SE good) (SE.hl 106) (SE.hr 106)) (J0 SE X106) a0 a1 a2
noncomputable abbrev Q106_11 (a0 : Str) (a1 : Str) (a2 : Int) (a3 : Int) (a4 : Int) (a5 : (List (List D))) : Res := R106_11 X106 (lam2 SE (callG SE good) (SE.hl 106) (SE.hr 106)) (J0 SE X106) a0 a1 a2 a3 a4 a5
noncomputable abbrev Q106_7 (a0 : Str) (a1 : Str) (a2 : Int) (a3 : Int) : Res := R106_7 X106 (lam2 SE (callG SE good) (SE.hl 106) (SE.hr 106)) (J0 SE X106) a0 a1 a2 a3
theorem strings_genSplit_j17_ok (x0 : Str) (x10 : Int) (w3009 : (List Str)) : Le (Option.map strings_genSplit_out (strings_genSplit_j17 x0 x10 w3009)) (Q106_17 x0 x10 (List.map encS w3009)) := by
 refine Le.trans ?_ (le_of_eq ((lab_realC Cr106).trans (T106_17 _ _ _ _ _  x0 x10 w3009)).symm)
 unfold strings_genSplit_j17
 refine le_cond (by simp only [EN]) (fun _ => ?_) (fun _ => le_none)
 refine le_cond (by simp only [EN]) (fun _ => ?_) (fun _ => le_none)
 exact le_ret (by first | rfl | simp only [EN, strings_genSplit_out] <;> rfl)
theorem strings_genSplit_l11_ok : ∀ (fu : Nat) (x0 : Str) (x1 : Str) (x2 : Int) (x3 : Int) (x10 : Int) (w3009 : (List Str)), Le (Option.map strings_genSplit_out (strings_genSplit_l11 fu x0 x1 x2 x3 x10 w3009)) (Q106_11 x0 x1 x2 x3 x10 (List.map encS w3009)) := by
 intro fu
 induction fu with
 | zero => intros; exact le_none
 | succ fu ih =>
  intro x0 x1 x2 x3 x10 w3009
  refine Le.trans ?_ (le_of_eq ((lab_realC Cr106).trans (T106_11 _ _ _ _ _  x0 x1 x2 x3 x10 w3009)).symm)
  unfold strings_genSplit_l11
  refine lC ?_ ?_
  ·refine le_call (good := good) eX strings_Index_inj (strings_Index_ok x0 x1) (fun r1 _ => ?_)
   refine lC ?_ ?_
   ·exact strings_genSplit_j17_ok x0 x10 w3009
   ·refine lF ?_
    refine le_cond (by simp only [EN]) (fun _ => ?_) (fun _ => le_none)
    refine lF ?_
    first | (simp only [EN]; exact ih (cutL x0 (some (IntKind.wrap .i64 (r1 + (List.length x1 : Int)))) none) x1 x2 x3 (IntKind.wrap .i64 (x10 + 1)) ((List.set w3009 (Int.toNat x10) (cutL x0 none (some (IntKind.wrap .i64 (r1 + x2))))))) | exact ih (cutL x0 (some (IntKind.wrap .i64 (r1 + (List.length x1 : Int)))) none) x1 x2 x3 (IntKind.wrap .i64 (x10 + 1)) ((List.set w3009 (Int.toNat x10) (cutL x0 none (some (IntKind.wrap .i64 (r1 + x2))))))
  ·exact strings_genSplit_j17_ok x0 x10 w3009
theorem strings_genSplit_j7_ok (x0 : Str) (x1 : Str) (x2 : Int) (x3 : Int) : Le (Option.map strings_genSplit_out (strings_genSplit_j7 x0 x1 x2 x3)) (Q106_7 x0 x1 x2 x3) := by
 refine Le.trans ?_ (le_of_eq ((lab_realC Cr106).trans (T106_7 _ _ _ _ _  x0 x1 x2 x3)).symm)
 unfold strings_genSplit_j7
 refine lF ?_
 first | (simp only [EN]; exact strings_genSplit_l11_ok fuel x0 x1 x2 ((IntKind.wrap .i64 ((if (IntKind.wrap .i64 ((List.length x0 : Int) + 1)) < x3 then (IntKind.wrap .i64 ((List.length x0 : Int) + 1)) else x3) - 1))) 0 ((List.replicate (Int.toNat (if (IntKind.wrap .i64 ((List.length x0 : Int) + 1)) < x3 then (IntKind.wrap .i64 ((List.length x0 : Int) + 1)) else x3)) default))) | exact strings_genSplit_l11_ok fuel x0 x1 x2 ((IntKind.wrap .i64 ((if (IntKind.wrap .i64 ((List.length x0 : Int) + 1)) < x3 then (IntKind.wrap .i64 ((List.length x0 : Int) + 1)) else x3) - 1))) 0 ((List.replicate (Int.toNat (if (IntKind.wrap .i64 ((List.length x0 : Int) + 1)) < x3 then (IntKind.wrap .i64 ((List.length x0 : Int) + 1)) else x3)) default))
theorem strings_genSplit_ok (p0 : Str) (p1 : Str) (p2 : Int) (p3 : Int) : Le (Option.map strings_genSplit_out (strings_genSplit p0 p1 p2 p3)) (callW SE 106 [.d (.str p0), .d (.str p1), .d (.int .i64 p2), .d (.int .i64 p3)] [] []) := by
 refine le_bodyC Cr106 rfl ?_
 refine Le.trans ?_ (le_of_eq (T106 _ _ _ _ _  p0 p1 p2 p3).symm)
 unfold strings_genSplit
 refine lC ?_ ?_
 ·exact le_ret (by first | rfl | simp only [EN, strings_genSplit_out] <;> rfl)
 ·refine lC ?_ ?_
  ·exact le_none
  ·refine lC ?_ ?_
   ·refine le_call (good := good) eX strings_Count_inj (strings_Count_ok p0 p1) (fun r0 _ => ?_)
    exact strings_genSplit_j7_ok p0 p1 p2 (IntKind.wrap .i64 (r0 + 1))
   ·exact strings_genSplit_j7_ok p0 p1 p2 p3
def C104 (Γ : Fun) (γ106 : Gm ((List Str))) : CFun := updC (bindC Γ) 106 strings_genSplit_out γ106
theorem T104 (Γ : Fun) (γ106 : Gm ((List Str))) (Λ2 J : Lam) (p0 : Str) (p1 : Str) : bodyC SE (C104 Γ γ106) Λ2 J 104 [.d (.str p0), .d (.str p1)] [] [] =
 γ106 [.d (.str p0), .d (.str p1), .d (.int .i64 0), .d (.int .i64 (-1))] [] [] fun r0 =>
 (some (.ret [.d (.sl [.str] (List.map encS r0))] [] [])) := by kernel_rfl
abbrev X104 : CFun := C104 (callG SE good) (callT SE good 106 strings_genSplit_out)
theorem Cr104 : C104 (callG SE good) (callT SE good 106 strings_genSplit_out) = bindC (callG SE good) := by unfold C104; rw [updC_real (fun _ h => h)]
theorem strings_Split_ok (p0 : Str) (p1 : Str) : Le (Option.map strings_Split_out (strings_Split p0 p1)) (callW SE 104 [.d (.str p0), .d (.str p1)] [] []) := by
 refine le_bodyC Cr104 rfl ?_
 refine Le.trans ?_ (le_of_eq (T104 _ _ _ _  p0 p1).symm)
 unfold strings_Split
 refine le_call (good := good) eX strings_genSplit_inj (strings_genSplit_ok p0 p1 0 (-1)) (fun r0 _ => ?_)
 exact le_ret (by first | rfl | simp only [EN, strings_Split_out] <;> rfl)
def C99 (Γ : Fun) (γ104 : Gm ((List Str))) : CFun := updC (bindC Γ) 104 strings_Split_out γ104
theorem T99 (Γ : Fun) (γ104 : Gm ((List Str))) (Λ2 J : Lam) (p0 : Str) : bodyC SE (C99 Γ γ104) Λ2 J 99 [.d (.str p0)] [] [] =
 γ104 [.d (.str p0), .d (.str ([47] : Str))] [] [] fun r0 =>
 (some (.ret [.d (.sl [.str] (List.map encS r0))] [] [])) := by kernel_rfl
abbrev X99 : CFun := C99 (callG SE good) (callT SE good 104 strings_Split_out)
theorem Cr99 : C99 (callG SE good) (callT SE good 104 strings_Split_out) = bindC (callG SE good) := by unfold C99; rw [updC_real (fun _ h => h)]
theorem topic_Levels_ok (p0 : Str) : Le (Option.map topic_Levels_out (topic_Levels p0)) (callW SE 99 [.d (.str p0)] [] []) := by
 refine le_bodyC Cr99 rfl ?_
 refine Le.trans ?_ (le_of_eq (T99 _ _ _ _  p0).symm)
 unfold topic_Levels
 refine le_call (good := good) eX strings_Split_inj (strings_Split_ok p0 ([47] : Str)) (fun r0 _ => ?_)
 exact le_ret (by first | rfl | simp only [EN, topic_Levels_out] <;> rfl)
def C88 (Γ : Fun) (γ95 : Gm (Bool)) (γ99 : Gm ((List Str))) : CFun := updC (updC (bindC Γ) 95 topic_sized_out γ95) 99 topic_Levels_out γ99
def R88_9 (C : CFun) (Λ2 J : Lam) (a0 : (List (List D))) (a1 : Bool) (a2 : Int) (a3 : Str) (a4 : (List (List D))) (a5 : Int) (a6 : Int) (a7 : Str) (a8 : Nat) : Res := lab SE C Λ2 J 88 0 [1, 0, 1, 1, 1, 1, 0, 1, 0, 0, 1, 1, 0, 0, 1, 1, 0] (stoOf [(3, .d (.sl [.str] a0)), (4, .d (.bool a1)), (5, .d (.int .i64 a2)), (6, .d (.str a3)), (15, .d (.sl [.str] a4)), (16, .d (.int .i64 a5)), (17, .d (.int .i64 a6)), (23, .it 4000)] [] [] [(4000, (a7, a8))] [])
def R88_6 (C : CFun) (Λ2 J : Lam) (a0 : (List (List D))) (a1 : Bool) (a2 : (List (List D))) (a3 : Int) (a4 : Int) : Res := lab SE C Λ2 J 88 0 [1, 0, 1, 1, 1, 1, 0, 1, 0] (stoOf [(3, .d (.sl [.str] a0)), (4, .d (.bool a1)), (15, .d (.sl [.str] a2)), (16, .d (.int .i64 a3)), (17, .d (.int .i64 a4))] [] [] [] [])
theorem T88 (Γ : Fun) (γ95 : Gm (Bool)) (γ99 : Gm ((List Str))) (Λ2 J : Lam) (p0 : Str) : bodyC SE (C88 Γ γ95 γ99) Λ2 J 88 [.d (.str p0)] [] [] =
 γ95 [.d (.str p0)] [] [] fun r0 =>
 cond (!r0) (
 (some (.ret [.d (.bool false)] [] []))) (
 γ99 [.d (.str p0)] [] [] fun r1 =>
 R88_6 (C88 Γ γ95 γ99) Λ2 J (List.map encS r1) true (List.map encS r1) (List.length (List.map encS r1) : Int) 0) := by kernel_rfl
theorem T88_9 (Γ : Fun) (γ95 : Gm (Bool)) (γ99 : Gm ((List Str))) (Λ2 J : Lam) (x3 : (List Str)) (x4 : Bool) (x5 : Int) (x6 : Str) (x15 : (List Str)) (x16 : Int) (x17 : Int) (s4000 : Str) (i4000 : Nat) : labU SE (C88 Γ γ95 γ99) Λ2 J 88 0 [1, 0, 1, 1, 1, 1, 0, 1, 0, 0, 1, 1, 0, 0, 1, 1, 0] (stoOf [(3, .d (.sl [.str] (List.map encS x3))), (4, .d (.bool x4)), (5, .d (.int .i64 x5)), (6, .d (.str x6)), (15, .d (.sl [.str] (List.map encS x15))), (16, .d (.int .i64 x16)), (17, .d (.int .i64 x17)), (23, .it 4000)] [] [] [(4000, (s4000, i4000))] []) =
 cond (decide (i4000 < List.length s4000)) (
 cond (((dec s4000 i4000).1 : Int) == 43) (
  cond (!((List.length x6 : Int) == 1)) (
  (some (.ret [.d (.bool false)] [] []))) (
  cond (((dec s4000 i4000).1 : Int) == 35) (
  cond (!((List.length x6 : Int) == 1)) (
   (some (.ret [.d (.bool false)] [] []))) (
  cond (decide (x5 < (IntKind.wrap .i64 ((List.length (List.map encS x3) : Int) - 1)))) (
   (some (.ret [.d (.bool false)] [] []))) (
  R88_9 (C88 Γ γ95 γ99) Λ2 J (List.map encS x3) x4 x5 x6 (List.map encS x15) x16 x17 s4000 (i4000 + (dec s4000 i4000).2)))) (
  R88_9 (C88 Γ γ95 γ99) Λ2 J (List.map encS x3) x4 x5 x6 (List.map encS x15) x16 x17 s4000 (i4000 + (dec s4000 i4000).2)))) (
 cond (((dec s4000 i4000).1 : Int) == 35) (
  cond (!((List.length x6 : Int) == 1)) (
  (some (.ret [.d (.bool false)] [] []))) (
  cond (decide (x5 < (IntKind.wrap .i64 ((List.length (List.map encS x3) : Int) - 1)))) (
  (some (.ret [.d (.bool false)] [] []))) (
  R88_9 (C88 Γ γ95 γ99) Λ2 J (List.map encS x3) x4 x5 x6 (List.map encS x15) x16 x17 s4000 (i4000 + (dec s4000 i4000).2)))) (
 R88_9 (C88 Γ γ95 γ99) Λ2 J (List.map encS x3) x4 x5 x6 (List.map encS x15) x16 x17 s4000 (i4000 + (dec s4000 i4000).2)))) (
 R88_6 (C88 Γ γ95 γ99) Λ2 J (List.map encS x3) x4 (List.map encS x15) x16 (IntKind.wrap .i64 (x17 + 1))) := by kernel_rfl
theorem T88_6 (Γ : Fun) (γ95 : Gm (Bool)) (γ99 : Gm ((List Str))) (Λ2 J : Lam) (x3 : (List Str)) (x4 : Bool) (x15 : (List Str)) (x16 : Int) (x17 : Int) : labU SE (C88 Γ γ95 γ99) Λ2 J 88 0 [1, 0, 1, 1, 1, 1, 0, 1, 0] (stoOf [(3, .d (.sl [.str] (List.map encS x3))), (4, .d (.bool x4)), (15, .d (.sl [.str] (List.map encS x15))), (16, .d (.int .i64 x16)), (17, .d (.int .i64 x17))] [] [] [] []) =
 cond (decide (x17 < x16)) (
 cond (decide (0 ≤ x17) && decide (x17 < (List.length (List.map encS x15) : Int))) (
  R88_9 (C88 Γ γ95 γ99) Λ2 J (List.map encS x3) x4 x17 ((dStr (cellAt (elemAt (List.map encS x15) (Int.toNat x17)) 0))) (List.map encS x15) x16 x17 ((dStr (cellAt (elemAt (List.map encS x15) (Int.toNat x17)) 0))) 0) none) (
 (some (.ret [.d (.bool x4)] [] []))) := by kernel_rfl
abbrev X88 : CFun := C88 (callG SE good) (callT SE good 95 topic_sized_out) (callT SE good 99 topic_Levels_out)
theorem Cr88 : C88 (callG SE good) (callT SE good 95 topic_sized_out) (callT SE good 99 topic_Levels_out) = bindC (callG SE good) := by unfold C88; rw [updC_real (fun _ h => h), updC_real (fun _ h => h)]
noncomputable abbrev Q88_9 (a0 : (List (List D))) (a1 : Bool) (a2 : Int) (a3 : Str) (a4 : (List (List D))) (a5 : Int) (a6 : Int) (a7 : Str) (a8 : Nat) : Res := R88_9 X88 (lam2 SE (callG SE good) (SE.hl 88) (SE.hr 88)) (J0 SE X88) a0 a1 a2 a3 a4 a5 a6 a7 a8
noncomputable abbrev Q88_6 (a0 : (List (List D))) (a1 : Bool) (a2 : (List (List D))) (a3 : Int) (a4 : Int) : Res := R88_6 X88 (lam2 SE (callG SE good) (SE.hl 88) (SE.hr 88)) (J0 SE X88) a0 a1 a2 a3 a4
theorem topic_Filter_l9_ok : ∀ (fu : Nat) (k6 : (List Str) → Bool → (List Str) → Int → Int → Option (Bool)) (hk6 : ∀ (x3 : (List Str)) (x4 : Bool) (x15 : (List Str)) (x16 : Int) (x17 : Int), Le (Option.map topic_Filter_out (k6 x3 x4 x15 x16 x17)) (Q88_6 (List.map encS x3) x4 (List.map encS x15) x16 x17)) (x3 : (List Str)) (x4 : Bool) (x5 : Int) (x6 : Str) (x15 : (List Str)) (x16 : Int) (x17 : Int) (s4000 : Str) (i4000 : Nat), Le (Option.map topic_Filter_out (topic_Filter_l9 fu k6 x3 x4 x5 x6 x15 x16 x17 s4000 i4000)) (Q88_9 (List.map encS x3) x4 x5 x6 (List.map encS x15) x16 x17 s4000 i4000) := by
 intro fu
 induction fu with
 | zero => intros; exact le_none
 | succ fu ih =>
  intro k6 hk6 x3 x4 x5 x6 x15 x16 x17 s4000 i4000
  refine Le.trans ?_ (le_of_eq ((lab_realC Cr88).trans (T88_9 _ _ _ _ _  x3 x4 x5 x6 x15 x16 x17 s4000 i4000)).symm)
  unfold topic_Filter_l9
  refine lC ?_ ?_
  ·refine lC ?_ ?_
   ·refine lC ?_ ?_
    ·exact le_ret (by first | rfl | simp only [EN, topic_Filter_out] <;> rfl)
    ·refine lC ?_ ?_
     ·refine lC ?_ ?_
      ·exact le_ret (by first | rfl | simp only [EN, topic_Filter_out] <;> rfl)
      ·refine le_cond (by simp only [EN]) (fun _ => ?_) (fun _ => ?_)
       ·exact le_ret (by first | rfl | simp only [EN, topic_Filter_out] <;> rfl)
       ·exact ih _ hk6 x3 x4 x5 x6 x15 x16 x17 s4000 (i4000 + (dec s4000 i4000).2)
     ·exact ih _ hk6 x3 x4 x5 x6 x15 x16 x17 s4000 (i4000 + (dec s4000 i4000).2)
   ·refine lC ?_ ?_
    ·refine lC ?_ ?_
     ·exact le_ret (by first | rfl | simp only [EN, topic_Filter_out] <;> rfl)
     ·refine le_cond (by simp only [EN]) (fun _ => ?_) (fun _ => ?_)
      ·exact le_ret (by first | rfl | simp only [EN, topic_Filter_out] <;> rfl)
      ·exact ih _ hk6 x3 x4 x5 x6 x15 x16 x17 s4000 (i4000 + (dec s4000 i4000).2)
    ·exact ih _ hk6 x3 x4 x5 x6 x15 x16 x17 s4000 (i4000 + (dec s4000 i4000).2)
  ·exact hk6 x3 x4 x15 x16 (IntKind.wrap .i64 (x17 + 1))
theorem topic_Filter_l6_ok : ∀ (fu : Nat) (x3 : (List Str)) (x4 : Bool) (x15 : (List Str)) (x16 : Int) (x17 : Int), Le (Option.map topic_Filter_out (topic_Filter_l6 fu x3 x4 x15 x16 x17)) (Q88_6 (List.map encS x3) x4 (List.map encS x15) x16 x17) := by
 intro fu
 induction fu with
 | zero => intros; exact le_none
 | succ fu ih =>
  intro x3 x4 x15 x16 x17
  refine Le.trans ?_ (le_of_eq ((lab_realC Cr88).trans (T88_6 _ _ _ _ _  x3 x4 x15 x16 x17)).symm)
  unfold topic_Filter_l6
  refine lC ?_ ?_
  ·refine le_cond (by simp only [EN]) (fun _ => ?_) (fun _ => le_none)
   first | (simp only [EN]; exact topic_Filter_l9_ok fuel _ (ih) x3 x4 x17 (List.getD x15 (Int.toNat x17) default) x15 x16 x17 (List.getD x15 (Int.toNat x17) default) 0) | exact topic_Filter_l9_ok fuel _ (ih) x3 x4 x17 (List.getD x15 (Int.toNat x17) default) x15 x16 x17 (List.getD x15 (Int.toNat x17) default) 0
  ·exact le_ret (by first | rfl | simp only [EN, topic_Filter_out] <;> rfl)
theorem topic_Filter_ok (p0 : Str) : Le (Option.map topic_Filter_out (topic_Filter p0)) (callW SE 88 [.d (.str p0)] [] []) := by
 refine le_bodyC Cr88 rfl ?_
 refine Le.trans ?_ (le_of_eq (T88 _ _ _ _ _  p0).symm)
 unfold topic_Filter
 refine le_call (good := good) eX topic_sized_inj (topic_sized_ok p0) (fun r0 _ => ?_)
 refine lC ?_ ?_
 ·exact le_ret (by first | rfl | simp only [EN, topic_Filter_out] <;> rfl)
 ·refine le_call (good := good) eX topic_Levels_inj (topic_Levels_ok p0) (fun r1 _ => ?_)
  first | (simp only [EN]; exact topic_Filter_l6_ok fuel r1 true r1 (List.length r1 : Int) 0) | exact topic_Filter_l6_ok fuel r1 true r1 (List.length r1 : Int) 0
def C89 (Γ : Fun) (γ100 : Gm (Bool)) : CFun := updC (bindC Γ) 100 stringslite_HasPrefix_out γ100
theorem T89 (Γ : Fun) (γ100 : Gm (Bool)) (Λ2 J : Lam) (p0 : Str) (p1 : Str) : bodyC SE (C89 Γ γ100) Λ2 J 89 [.d (.str p0), .d (.str p1)] [] [] =
 γ100 [.d (.str p0), .d (.str p1)] [] [] fun r0 =>
 (some (.ret [.d (.bool r0)] [] [])) := by kernel_rfl
abbrev X89 : CFun := C89 (callG SE good) (callT SE good 100 stringslite_HasPrefix_out)
theorem Cr89 : C89 (callG SE good) (callT SE good 100 stringslite_HasPrefix_out) = bindC (callG SE good) := by unfold C89; rw [updC_real (fun _ h => h)]
theorem strings_HasPrefix_ok (p0 : Str) (p1 : Str) : Le (Option.map strings_HasPrefix_out (strings_HasPrefix p0 p1)) (callW SE 89 [.d (.str p0), .d (.str p1)] [] []) := by
 refine le_bodyC Cr89 rfl ?_
 refine Le.trans ?_ (le_of_eq (T89 _ _ _ _  p0 p1).symm)
 unfold strings_HasPrefix
 refine le_call (good := good) eX stringslite_HasPrefix_inj (stringslite_HasPrefix_ok p0 p1) (fun r0 _ => ?_)
 exact le_ret (by first | rfl | simp only [EN, strings_HasPrefix_out] <;> rfl)
def C87 (Γ : Fun) (γ97 : Gm (Str × Bool)) (γ98 : Gm (Str × Str × Bool)) (γ69 : Gm (Bool)) (γ88 : Gm (Bool)) (γ89 : Gm (Bool)) : CFun := updC (updC (updC (updC (updC (bindC Γ) 97 strings_CutPrefix_out γ97) 98 strings_Cut_out γ98) 69 topic_Name_out γ69) 88 topic_Filter_out γ88) 89 strings_HasPrefix_out γ89
theorem T87 (Γ : Fun) (γ97 : Gm (Str × Bool)) (γ98 : Gm (Str × Str × Bool)) (γ69 : Gm (Bool)) (γ88 : Gm (Bool)) (γ89 : Gm (Bool)) (Λ2 J : Lam) (p0 : Str) : bodyC SE (C87 Γ γ97 γ98 γ69 γ88 γ89) Λ2 J 87 [.d (.str p0)] [] [] =
 γ97 [.d (.str p0), .d (.str ([36, 115, 104, 97, 114, 101, 47] : Str))] [] [] fun r0 =>
 cond (!r0.2) (
 (some (.ret [.d (.str ([] : Str)), .d (.str ([] : Str)), .d (.bool false)] [] []))) (
 γ98 [.d (.str r0.1), .d (.str ([47] : Str))] [] [] fun r1 =>
 cond (!r1.2.2) (
 (some (.ret [.d (.str ([] : Str)), .d (.str ([] : Str)), .d (.bool false)] [] []))) (
 γ69 [.d (.str r1.1)] [] [] fun r2 =>
 cond (!r2) (
 (some (.ret [.d (.str ([] : Str)), .d (.str ([] : Str)), .d (.bool false)] [] []))) (
 γ88 [.d (.str r1.2.1)] [] [] fun r3 =>
 cond (!r3) (
 (some (.ret [.d (.str ([] : Str)), .d (.str ([] : Str)), .d (.bool false)] [] []))) (
 γ89 [.d (.str r1.2.1), .d (.str ([36, 115, 104, 97, 114, 101, 47] : Str))] [] [] fun r4 =>
 cond r4 (
 (some (.ret [.d (.str ([] : Str)), .d (.str ([] : Str)), .d (.bool false)] [] []))) (
 (some (.ret [.d (.str r1.1), .d (.str r1.2.1), .d (.bool true)] [] []))))))) := by kernel_rfl
abbrev X87 : CFun := C87 (callG SE good) (callT SE good 97 strings_CutPrefix_out) (callT SE good 98 strings_Cut_out) (callT SE good 69 topic_Name_out) (callT SE good 88 topic_Filter_out) (callT SE good 89 strings_HasPrefix_out)
theorem Cr87 : C87 (callG SE good) (callT SE good 97 strings_CutPrefix_out) (callT SE good 98 strings_Cut_out) (callT SE good 69 topic_Name_out) (callT SE good 88 topic_Filter_out) (callT SE good 89 strings_HasPrefix_out) = bindC (callG SE good) := by unfold C87; rw [updC_real (fun _ h => h), updC_real (fun _ h => h), updC_real (fun _ h => h), updC_real (fun _ h => h), updC_real (fun _ h => h)]
theorem topic_Shared_ok (p0 : Str) : Le (Option.map topic_Shared_out (topic_Shared p0)) (callW SE 87 [.d (.str p0)] [] []) := by
 refine le_bodyC Cr87 rfl ?_
 refine Le.trans ?_ (le_of_eq (T87 _ _ _ _ _ _ _ _  p0).symm)
 unfold topic_Shared
 refine le_call (good := good) eX strings_CutPrefix_inj (strings_CutPrefix_ok p0 ([36, 115, 104, 97, 114, 101, 47] : Str)) (fun r0 _ => ?_)
 refine lC ?_ ?_
 ·exact le_ret (by first | rfl | simp only [EN, topic_Shared_out] <;> rfl)
 ·refine le_call (good := good) eX strings_Cut_inj (strings_Cut_ok r0.1 ([47] : Str)) (fun r1 _ => ?_)
  refine lC ?_ ?_
  ·exact le_ret (by first | rfl | simp only [EN, topic_Shared_out] <;> rfl)
  ·refine le_call (good := good) eX topic_Name_inj (topic_Name_ok r1.1) (fun r2 _ => ?_)
   refine lC ?_ ?_
   ·exact le_ret (by first | rfl | simp only [EN, topic_Shared_out] <;> rfl)
   ·refine le_call (good := good) eX topic_Filter_inj (topic_Filter_ok r1.2.1) (fun r3 _ => ?_)
    refine lC ?_ ?_
    ·exact le_ret (by first | rfl | simp only [EN, topic_Shared_out] <;> rfl)
    ·refine le_call (good := good) eX strings_HasPrefix_inj (strings_HasPrefix_ok r1.2.1 ([36, 115, 104, 97, 114, 101, 47] : Str)) (fun r4 _ => ?_)
     refine lC ?_ ?_
     ·exact le_ret (by first | rfl | simp only [EN, topic_Shared_out] <;> rfl)
     ·exact le_ret (by first | rfl | simp only [EN, topic_Shared_out] <;> rfl)
def C72 (Γ : Fun) (γ87 : Gm (Str × Str × Bool)) (γ88 : Gm (Bool)) (γ89 : Gm (Bool)) : CFun := updC (updC (updC (bindC Γ) 87 topic_Shared_out γ87) 88 topic_Filter_out γ88) 89 strings_HasPrefix_out γ89
theorem T72 (Γ : Fun) (γ87 : Gm (Str × Str × Bool)) (γ88 : Gm (Bool)) (γ89 : Gm (Bool)) (Λ2 J : Lam) (p0 : Str) : bodyC SE (C72 Γ γ87 γ88 γ89) Λ2 J 72 [.d (.str p0)] [] [] =
 γ87 [.d (.str p0)] [] [] fun r0 =>
 cond r0.2.2 (
 (some (.ret [.d (.bool true), .d (.bool true)] [] []))) (
 γ88 [.d (.str p0)] [] [] fun r1 =>
 cond r1 (
 γ89 [.d (.str p0), .d (.str ([36, 115, 104, 97, 114, 101, 47] : Str))] [] [] fun r2 =>
 (some (.ret [.d (.bool (!r2)), .d (.bool false)] [] []))) (
 (some (.ret [.d (.bool false), .d (.bool false)] [] [])))) := by kernel_rfl
abbrev X72 : CFun := C72 (callG SE good) (callT SE good 87 topic_Shared_out) (callT SE good 88 topic_Filter_out) (callT SE good 89 strings_HasPrefix_out)
theorem Cr72 : C72 (callG SE good) (callT SE good 87 topic_Shared_out) (callT SE good 88 topic_Filter_out) (callT SE good 89 strings_HasPrefix_out) = bindC (callG SE good) := by unfold C72; rw [updC_real (fun _ h => h), updC_real (fun _ h => h), updC_real (fun _ h => h)]
theorem packet_wanted_ok (p0 : Str) : Le (Option.map packet_wanted_out (packet_wanted p0)) (callW SE 72 [.d (.str p0)] [] []) := by
 refine le_bodyC Cr72 rfl ?_
 refine Le.trans ?_ (le_of_eq (T72 _ _ _ _ _ _  p0).symm)
 unfold packet_wanted
 refine le_call (good := good) eX topic_Shared_inj (topic_Shared_ok p0) (fun r0 _ => ?_)
 refine lC ?_ ?_
 ·exact le_ret (by first | rfl | simp only [EN, packet_wanted_out] <;> rfl)
 ·refine le_call (good := good) eX topic_Filter_inj (topic_Filter_ok p0) (fun r1 _ => ?_)
  refine lC ?_ ?_
  ·refine le_call (good := good) eX strings_HasPrefix_inj (strings_HasPrefix_ok p0 ([36, 115, 104, 97, 114, 101, 47] : Str)) (fun r2 _ => ?_)
   exact le_ret (by first | rfl | simp only [EN, packet_wanted_out] <;> rfl)
  ·exact le_ret (by first | rfl | simp only [EN, packet_wanted_out] <;> rfl)
def C46 (Γ : Fun) (γ71 : Gm (Int)) (γ72 : Gm (Bool × Bool)) (γ39 : Gm (Bool)) : CFun := updC (updC (updC (bindC Γ) 71 packet_counted_out γ71) 72 packet_wanted_out γ72) 39 packet_is_out γ39
def R46_5 (C : CFun) (Λ2 J : Lam) (a0 : (List (List D))) (a1 : Int) (a2 : Int) : Res := lab SE C Λ2 J 46 0 [1, 1, 0, 1, 0] (stoOf [(18, .d (.sl api_Sub.ks a0)), (19, .d (.int .i64 a1)), (20, .d (.int .i64 a2))] [] [] [] [])
theorem T46 (Γ : Fun) (γ71 : Gm (Int)) (γ72 : Gm (Bool × Bool)) (γ39 : Gm (Bool)) (Λ2 J : Lam) (p0 : api_Packet) : bodyC SE (C46 Γ γ71 γ72 γ39) Λ2 J 46 [api_Packet.av p0] [] [] =
 γ71 [.d (.int .i64 p0.ID), .d (.int .i64 (List.length (List.map api_Sub.enc p0.Subs) : Int))] [] [] fun r0 =>
 cond (r0 != 0) (
 (some (.ret [.d (.int .i64 r0)] [] []))) (
 R46_5 (C46 Γ γ71 γ72 γ39) Λ2 J (List.map api_Sub.enc p0.Subs) (List.length (List.map api_Sub.enc p0.Subs) : Int) 0) := by kernel_rfl
theorem T46_5 (Γ : Fun) (γ71 : Gm (Int)) (γ72 : Gm (Bool × Bool)) (γ39 : Gm (Bool)) (Λ2 J : Lam) (x18 : (List api_Sub)) (x19 : Int) (x20 : Int) : labU SE (C46 Γ γ71 γ72 γ39) Λ2 J 46 0 [1, 1, 0, 1, 0] (stoOf [(18, .d (.sl api_Sub.ks (List.map api_Sub.enc x18))), (19, .d (.int .i64 x19)), (20, .d (.int .i64 x20))] [] [] [] []) =
 cond (decide (x20 < x19)) (
 cond (decide (0 ≤ x20) && decide (x20 < (List.length (List.map api_Sub.enc x18) : Int))) (
  γ72 [.d (.str (dStr (cellAt (elemAt (List.map api_Sub.enc x18) (Int.toNat x20)) 0)))] [] [] fun r1 =>
  cond (!r1.1) (
  (some (.ret [.d (.int .i64 13)] [] []))) (
  γ39 [.d (.int .i64 (dInt (cellAt (elemAt (List.map api_Sub.enc x18) (Int.toNat x20)) 1))), .d (.int .i64 0), .d (.int .i64 2)] [] [] fun r2 =>
  cond (!r2) (
  (some (.ret [.d (.int .i64 14)] [] []))) (
  cond (dBool (cellAt (elemAt (List.map api_Sub.enc x18) (Int.toNat x20)) 2)) (
  cond r1.2 (
   (some (.ret [.d (.int .i64 28)] [] []))) (
  R46_5 (C46 Γ γ71 γ72 γ39) Λ2 J (List.map api_Sub.enc x18) x19 (IntKind.wrap .i64 (x20 + 1)))) (
  R46_5 (C46 Γ γ71 γ72 γ39) Λ2 J (List.map api_Sub.enc x18) x19 (IntKind.wrap .i64 (x20 + 1)))))) none) (
 (some (.ret [.d (.int .i64 0)] [] []))) := by kernel_rfl
abbrev X46 : CFun := C46 (callG SE good) (callT SE good 71 packet_counted_out) (callT SE good 72 packet_wanted_out) (callT SE good 39 packet_is_out)
theorem Cr46 : C46 (callG SE good) (callT SE good 71 packet_counted_out) (callT SE good 72 packet_wanted_out) (callT SE good 39 packet_is_out) = bindC (callG SE good) := by unfold C46; rw [updC_real (fun _ h => h), updC_real (fun _ h => h), updC_real (fun _ h => h)]
noncomputable abbrev Q46_5 (a0 : (List (List D))) (a1 : Int) (a2 : Int) : Res := R46_5 X46 (lam2 SE (callG SE good) (SE.hl 46) (SE.hr 46)) (J0 SE X46) a0 a1 a2
theorem packet_subscribe_l5_ok : ∀ (fu : Nat) (x18 : (List api_Sub)) (x19 : Int) (x20 : Int), Le (Option.map packet_subscribe_out (packet_subscribe_l5 fu x18 x19 x20)) (Q46_5 (List.map api_Sub.enc x18) x19 x20) := by
 intro fu
 induction fu with
 | zero => intros; exact le_none
 | succ fu ih =>
  intro x18 x19 x20
  refine Le.trans ?_ (le_of_eq ((lab_realC Cr46).trans (T46_5 _ _ _ _ _ _  x18 x19 x20)).symm)
  unfold packet_subscribe_l5
  refine lC ?_ ?_
  ·refine le_cond (by simp only [EN]) (fun _ => ?_) (fun _ => le_none)
   refine le_call (good := good) eX packet_wanted_inj (by first | (simp only [EN]; exact packet_wanted_ok ((List.getD x18 (Int.toNat x20) default).Filter)) | exact packet_wanted_ok ((List.getD x18 (Int.toNat x20) default).Filter)) (fun r1 _ => ?_)
   refine lC ?_ ?_
   ·exact le_ret (by first | rfl | simp only [EN, packet_subscribe_out] <;> rfl)
   ·refine le_call (good := good) eX packet_is_inj (by first | (simp only [EN]; exact packet_is_ok ((List.getD x18 (Int.toNat x20) default).Level) 0 2) | exact packet_is_ok ((List.getD x18 (Int.toNat x20) default).Level) 0 2) (fun r2 _ => ?_)
    refine lC ?_ ?_
    ·exact le_ret (by first | rfl | simp only [EN, packet_subscribe_out] <;> rfl)
    ·refine le_cond (by simp only [EN]) (fun _ => ?_) (fun _ => ?_)
     ·refine lC ?_ ?_
      ·exact le_ret (by first | rfl | simp only [EN, packet_subscribe_out] <;> rfl)
      ·exact ih x18 x19 (IntKind.wrap .i64 (x20 + 1))
     ·exact ih x18 x19 (IntKind.wrap .i64 (x20 + 1))
  ·exact le_ret (by first | rfl | simp only [EN, packet_subscribe_out] <;> rfl)
theorem packet_subscribe_ok (p0 : api_Packet) : Le (Option.map packet_subscribe_out (packet_subscribe p0)) (callW SE 46 [api_Packet.av p0] [] []) := by
 refine le_bodyC Cr46 rfl ?_
 refine Le.trans ?_ (le_of_eq (T46 _ _ _ _ _ _  p0).symm)
 unfold packet_subscribe
 refine le_call (good := good) eX packet_counted_inj (by first | (simp only [EN]; exact packet_counted_ok p0.ID (List.length p0.Subs : Int)) | exact packet_counted_ok p0.ID (List.length p0.Subs : Int)) (fun r0 _ => ?_)
 refine lC ?_ ?_
 ·exact le_ret (by first | rfl | simp only [EN, packet_subscribe_out] <;> rfl)
 ·first | (simp only [EN]; exact packet_subscribe_l5_ok fuel p0.Subs (List.length p0.Subs : Int) 0) | exact packet_subscribe_l5_ok fuel p0.Subs (List.length p0.Subs : Int) 0
end Te
end PX
