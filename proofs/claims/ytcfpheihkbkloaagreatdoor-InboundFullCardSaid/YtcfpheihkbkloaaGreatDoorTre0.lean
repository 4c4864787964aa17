import Derived.Test.YtcfpheihkbkloaaGreatDoorTab
set_option linter.unusedVariables false
set_option linter.unusedSimpArgs false
set_option linter.unusedVariables false
set_option linter.unusedSimpArgs false
set_option maxRecDepth 100000
noncomputable section
namespace PX
open Go
open Md
namespace Te
def C31 (Γ : Fun)  : CFun := bindC Γ
def R31_23 (C : CFun) (Λ2 J : Lam) (a0 : (List D)) (a1 : (List D)) (a2 : (List D)) : Res := lab SE C Λ2 J 31 0 [1, 1, 1, 1, 1, 1, 1, 1, 1, 0, 0] (stoOf [(1, .ptr 1000000000 0), (2, .ptr 1000000001 0), (3, .ptr 1000000002 0)] [⟨33, (List.map AV.d a0)⟩, ⟨33, (List.map AV.d a1)⟩, ⟨33, (List.map AV.d a2)⟩] [] [] [])
def R31_21 (C : CFun) (Λ2 J : Lam) (a0 : (List D)) (a1 : (List D)) (a2 : (List D)) : Res := lab SE C Λ2 J 31 0 [1, 1, 1, 1, 1, 1, 1, 1, 0, 0] (stoOf [(1, .ptr 1000000000 0), (2, .ptr 1000000001 0), (3, .ptr 1000000002 0)] [⟨33, (List.map AV.d a0)⟩, ⟨33, (List.map AV.d a1)⟩, ⟨33, (List.map AV.d a2)⟩] [] [] [])
def R31_19 (C : CFun) (Λ2 J : Lam) (a0 : (List D)) (a1 : (List D)) (a2 : (List D)) : Res := lab SE C Λ2 J 31 0 [1, 1, 1, 1, 1, 1, 1, 0, 0] (stoOf [(1, .ptr 1000000000 0), (2, .ptr 1000000001 0), (3, .ptr 1000000002 0)] [⟨33, (List.map AV.d a0)⟩, ⟨33, (List.map AV.d a1)⟩, ⟨33, (List.map AV.d a2)⟩] [] [] [])
def R31_16 (C : CFun) (Λ2 J : Lam) (a0 : (List D)) (a1 : (List D)) (a2 : (List D)) : Res := lab SE C Λ2 J 31 0 [1, 1, 1, 1, 1, 1, 0, 0] (stoOf [(1, .ptr 1000000000 0), (2, .ptr 1000000001 0), (3, .ptr 1000000002 0)] [⟨33, (List.map AV.d a0)⟩, ⟨33, (List.map AV.d a1)⟩, ⟨33, (List.map AV.d a2)⟩] [] [] [])
def R31_14 (C : CFun) (Λ2 J : Lam) (a0 : (List D)) (a1 : (List D)) (a2 : (List D)) : Res := lab SE C Λ2 J 31 0 [1, 1, 1, 1, 1, 0, 0] (stoOf [(1, .ptr 1000000000 0), (2, .ptr 1000000001 0), (3, .ptr 1000000002 0)] [⟨33, (List.map AV.d a0)⟩, ⟨33, (List.map AV.d a1)⟩, ⟨33, (List.map AV.d a2)⟩] [] [] [])
def R31_12 (C : CFun) (Λ2 J : Lam) (a0 : (List D)) (a1 : (List D)) (a2 : (List D)) : Res := lab SE C Λ2 J 31 0 [1, 1, 1, 1, 0, 0] (stoOf [(1, .ptr 1000000000 0), (2, .ptr 1000000001 0), (3, .ptr 1000000002 0)] [⟨33, (List.map AV.d a0)⟩, ⟨33, (List.map AV.d a1)⟩, ⟨33, (List.map AV.d a2)⟩] [] [] [])
def R31_4 (C : CFun) (Λ2 J : Lam) (a0 : (List D)) (a1 : (List D)) (a2 : (List D)) : Res := lab SE C Λ2 J 31 0 [1, 1, 1, 0, 0] (stoOf [(1, .ptr 1000000000 0), (2, .ptr 1000000001 0), (3, .ptr 1000000002 0)] [⟨33, (List.map AV.d a0)⟩, ⟨33, (List.map AV.d a1)⟩, ⟨33, (List.map AV.d a2)⟩] [] [] [])
theorem T31 (Γ : Fun)  (Λ2 J : Lam) (p0 : api_Packet) : bodyC SE (C31 Γ) Λ2 J 31 [api_Packet.av p0] [] [] =
 cond (p0.Kind == 3) (
 R31_4 (C31 Γ) Λ2 J (api_Packet.enc p0) [D.int .i64 0, D.int .i64 0, D.bool false, D.str ([] : Str), D.str ([] : Str), D.int .i64 0, D.bool false, D.int .i64 0, D.int .i64 0, D.str ([] : Str), D.int .i64 0, D.sl api_Prop.ks (List.map api_Prop.enc []), D.str ([] : Str), D.str ([] : Str), D.bool false, D.int .i64 0, D.int .i64 0, D.int .i64 0, D.bool false, D.int .i64 0, D.str ([] : Str), D.str ([] : Str), D.int .i64 0, D.bool false, D.int .i64 0, D.int .i64 0, D.str ([] : Str), D.int .i64 0, D.sl api_Prop.ks (List.map api_Prop.enc []), D.bool false, D.int .i64 0, D.sl api_Sub.ks (List.map api_Sub.enc []), D.sl [.str] (List.map encS []), D.sl [.int .i64] (List.map (encI .i64) [])] [D.int .i64 p0.Kind, D.int .i64 p0.ID, D.bool false, D.str ([] : Str), D.str ([] : Str), D.int .i64 0, D.bool false, D.int .i64 0, D.int .i64 0, D.str ([] : Str), D.int .i64 0, D.sl api_Prop.ks (List.map api_Prop.enc []), D.str ([] : Str), D.str ([] : Str), D.bool false, D.int .i64 0, D.int .i64 0, D.int .i64 0, D.bool false, D.int .i64 0, D.str ([] : Str), D.str ([] : Str), D.int .i64 0, D.bool false, D.int .i64 0, D.int .i64 0, D.str ([] : Str), D.int .i64 0, D.sl api_Prop.ks (List.map api_Prop.enc []), D.bool false, D.int .i64 0, D.sl api_Sub.ks (List.map api_Sub.enc []), D.sl [.str] (List.map encS []), D.sl [.int .i64] (List.map (encI .i64) [])]) (
 cond (decide (p0.Kind ≥ 4)) (
 cond (decide (p0.Kind ≤ 11)) (
  R31_4 (C31 Γ) Λ2 J (api_Packet.enc p0) [D.int .i64 0, D.int .i64 0, D.bool false, D.str ([] : Str), D.str ([] : Str), D.int .i64 0, D.bool false, D.int .i64 0, D.int .i64 0, D.str ([] : Str), D.int .i64 0, D.sl api_Prop.ks (List.map api_Prop.enc []), D.str ([] : Str), D.str ([] : Str), D.bool false, D.int .i64 0, D.int .i64 0, D.int .i64 0, D.bool false, D.int .i64 0, D.str ([] : Str), D.str ([] : Str), D.int .i64 0, D.bool false, D.int .i64 0, D.int .i64 0, D.str ([] : Str), D.int .i64 0, D.sl api_Prop.ks (List.map api_Prop.enc []), D.bool false, D.int .i64 0, D.sl api_Sub.ks (List.map api_Sub.enc []), D.sl [.str] (List.map encS []), D.sl [.int .i64] (List.map (encI .i64) [])] [D.int .i64 p0.Kind, D.int .i64 p0.ID, D.bool false, D.str ([] : Str), D.str ([] : Str), D.int .i64 0, D.bool false, D.int .i64 0, D.int .i64 0, D.str ([] : Str), D.int .i64 0, D.sl api_Prop.ks (List.map api_Prop.enc []), D.str ([] : Str), D.str ([] : Str), D.bool false, D.int .i64 0, D.int .i64 0, D.int .i64 0, D.bool false, D.int .i64 0, D.str ([] : Str), D.str ([] : Str), D.int .i64 0, D.bool false, D.int .i64 0, D.int .i64 0, D.str ([] : Str), D.int .i64 0, D.sl api_Prop.ks (List.map api_Prop.enc []), D.bool false, D.int .i64 0, D.sl api_Sub.ks (List.map api_Sub.enc []), D.sl [.str] (List.map encS []), D.sl [.int .i64] (List.map (encI .i64) [])]) (
 R31_4 (C31 Γ) Λ2 J (api_Packet.enc p0) [D.int .i64 0, D.int .i64 0, D.bool false, D.str ([] : Str), D.str ([] : Str), D.int .i64 0, D.bool false, D.int .i64 0, D.int .i64 0, D.str ([] : Str), D.int .i64 0, D.sl api_Prop.ks (List.map api_Prop.enc []), D.str ([] : Str), D.str ([] : Str), D.bool false, D.int .i64 0, D.int .i64 0, D.int .i64 0, D.bool false, D.int .i64 0, D.str ([] : Str), D.str ([] : Str), D.int .i64 0, D.bool false, D.int .i64 0, D.int .i64 0, D.str ([] : Str), D.int .i64 0, D.sl api_Prop.ks (List.map api_Prop.enc []), D.bool false, D.int .i64 0, D.sl api_Sub.ks (List.map api_Sub.enc []), D.sl [.str] (List.map encS []), D.sl [.int .i64] (List.map (encI .i64) [])] [D.int .i64 p0.Kind, D.int .i64 0, D.bool false, D.str ([] : Str), D.str ([] : Str), D.int .i64 0, D.bool false, D.int .i64 0, D.int .i64 0, D.str ([] : Str), D.int .i64 0, D.sl api_Prop.ks (List.map api_Prop.enc []), D.str ([] : Str), D.str ([] : Str), D.bool false, D.int .i64 0, D.int .i64 0, D.int .i64 0, D.bool false, D.int .i64 0, D.str ([] : Str), D.str ([] : Str), D.int .i64 0, D.bool false, D.int .i64 0, D.int .i64 0, D.str ([] : Str), D.int .i64 0, D.sl api_Prop.ks (List.map api_Prop.enc []), D.bool false, D.int .i64 0, D.sl api_Sub.ks (List.map api_Sub.enc []), D.sl [.str] (List.map encS []), D.sl [.int .i64] (List.map (encI .i64) [])])) (
 R31_4 (C31 Γ) Λ2 J (api_Packet.enc p0) [D.int .i64 0, D.int .i64 0, D.bool false, D.str ([] : Str), D.str ([] : Str), D.int .i64 0, D.bool false, D.int .i64 0, D.int .i64 0, D.str ([] : Str), D.int .i64 0, D.sl api_Prop.ks (List.map api_Prop.enc []), D.str ([] : Str), D.str ([] : Str), D.bool false, D.int .i64 0, D.int .i64 0, D.int .i64 0, D.bool false, D.int .i64 0, D.str ([] : Str), D.str ([] : Str), D.int .i64 0, D.bool false, D.int .i64 0, D.int .i64 0, D.str ([] : Str), D.int .i64 0, D.sl api_Prop.ks (List.map api_Prop.enc []), D.bool false, D.int .i64 0, D.sl api_Sub.ks (List.map api_Sub.enc []), D.sl [.str] (List.map encS []), D.sl [.int .i64] (List.map (encI .i64) [])] [D.int .i64 p0.Kind, D.int .i64 0, D.bool false, D.str ([] : Str), D.str ([] : Str), D.int .i64 0, D.bool false, D.int .i64 0, D.int .i64 0, D.str ([] : Str), D.int .i64 0, D.sl api_Prop.ks (List.map api_Prop.enc []), D.str ([] : Str), D.str ([] : Str), D.bool false, D.int .i64 0, D.int .i64 0, D.int .i64 0, D.bool false, D.int .i64 0, D.str ([] : Str), D.str ([] : Str), D.int .i64 0, D.bool false, D.int .i64 0, D.int .i64 0, D.str ([] : Str), D.int .i64 0, D.sl api_Prop.ks (List.map api_Prop.enc []), D.bool false, D.int .i64 0, D.sl api_Sub.ks (List.map api_Sub.enc []), D.sl [.str] (List.map encS []), D.sl [.int .i64] (List.map (encI .i64) [])])) := by kernel_rfl
theorem T31_23 (Γ : Fun)  (Λ2 J : Lam) (b0 : api_Packet) (b1 : api_Packet) (b2 : api_Packet) : labU SE (C31 Γ) Λ2 J 31 0 [1, 1, 1, 1, 1, 1, 1, 1, 1, 0, 0] (stoOf [(1, .ptr 1000000000 0), (2, .ptr 1000000001 0), (3, .ptr 1000000002 0)] [⟨33, (List.map AV.d (api_Packet.enc b0))⟩, ⟨33, (List.map AV.d (api_Packet.enc b1))⟩, ⟨33, (List.map AV.d (api_Packet.enc b2))⟩] [] [] []) =
 cond (b0.Kind == 9) (
 (some (.ret [api_Packet.av (api_Packet.mk b2.Kind b2.ID b2.Dup b2.Message b2.Client b2.User b2.Clean b2.Keep b2.Expiry b2.Window b2.Will b2.Present b2.Code b2.Subs b2.Filters b0.Codes)] [] []))) (
 cond (b0.Kind == 11) (
 (some (.ret [api_Packet.av (api_Packet.mk b2.Kind b2.ID b2.Dup b2.Message b2.Client b2.User b2.Clean b2.Keep b2.Expiry b2.Window b2.Will b2.Present b2.Code b2.Subs b2.Filters b0.Codes)] [] []))) (
 (some (.ret [api_Packet.av b2] [] [])))) := by kernel_rfl
theorem T31_21 (Γ : Fun)  (Λ2 J : Lam) (b0 : api_Packet) (b1 : api_Packet) (b2 : api_Packet) : labU SE (C31 Γ) Λ2 J 31 0 [1, 1, 1, 1, 1, 1, 1, 1, 0, 0] (stoOf [(1, .ptr 1000000000 0), (2, .ptr 1000000001 0), (3, .ptr 1000000002 0)] [⟨33, (List.map AV.d (api_Packet.enc b0))⟩, ⟨33, (List.map AV.d (api_Packet.enc b1))⟩, ⟨33, (List.map AV.d (api_Packet.enc b2))⟩] [] [] []) =
 cond (b0.Kind == 10) (
 R31_23 (C31 Γ) Λ2 J (api_Packet.enc b0) (api_Packet.enc b1) (api_Packet.enc (api_Packet.mk b2.Kind b2.ID b2.Dup b2.Message b2.Client b2.User b2.Clean b2.Keep b2.Expiry b2.Window b2.Will b2.Present b2.Code b2.Subs b0.Filters b2.Codes))) (
 R31_23 (C31 Γ) Λ2 J (api_Packet.enc b0) (api_Packet.enc b1) (api_Packet.enc b2)) := by kernel_rfl
theorem T31_19 (Γ : Fun)  (Λ2 J : Lam) (b0 : api_Packet) (b1 : api_Packet) (b2 : api_Packet) : labU SE (C31 Γ) Λ2 J 31 0 [1, 1, 1, 1, 1, 1, 1, 0, 0] (stoOf [(1, .ptr 1000000000 0), (2, .ptr 1000000001 0), (3, .ptr 1000000002 0)] [⟨33, (List.map AV.d (api_Packet.enc b0))⟩, ⟨33, (List.map AV.d (api_Packet.enc b1))⟩, ⟨33, (List.map AV.d (api_Packet.enc b2))⟩] [] [] []) =
 cond (b0.Kind == 8) (
 R31_21 (C31 Γ) Λ2 J (api_Packet.enc b0) (api_Packet.enc b1) (api_Packet.enc (api_Packet.mk b2.Kind b2.ID b2.Dup b2.Message b2.Client b2.User b2.Clean b2.Keep b2.Expiry b2.Window b2.Will b2.Present b2.Code b0.Subs b2.Filters b2.Codes))) (
 R31_21 (C31 Γ) Λ2 J (api_Packet.enc b0) (api_Packet.enc b1) (api_Packet.enc b2)) := by kernel_rfl
theorem T31_16 (Γ : Fun)  (Λ2 J : Lam) (b0 : api_Packet) (b1 : api_Packet) (b2 : api_Packet) : labU SE (C31 Γ) Λ2 J 31 0 [1, 1, 1, 1, 1, 1, 0, 0] (stoOf [(1, .ptr 1000000000 0), (2, .ptr 1000000001 0), (3, .ptr 1000000002 0)] [⟨33, (List.map AV.d (api_Packet.enc b0))⟩, ⟨33, (List.map AV.d (api_Packet.enc b1))⟩, ⟨33, (List.map AV.d (api_Packet.enc b2))⟩] [] [] []) =
 cond (b0.Kind == 3) (
 R31_19 (C31 Γ) Λ2 J (api_Packet.enc b0) (api_Packet.enc b1) (api_Packet.enc (api_Packet.mk b2.Kind b2.ID b0.Dup b0.Message b2.Client b2.User b2.Clean b2.Keep b2.Expiry b2.Window b2.Will b2.Present b2.Code b2.Subs b2.Filters b2.Codes))) (
 R31_19 (C31 Γ) Λ2 J (api_Packet.enc b0) (api_Packet.enc b1) (api_Packet.enc b2)) := by kernel_rfl
theorem T31_14 (Γ : Fun)  (Λ2 J : Lam) (b0 : api_Packet) (b1 : api_Packet) (b2 : api_Packet) : labU SE (C31 Γ) Λ2 J 31 0 [1, 1, 1, 1, 1, 0, 0] (stoOf [(1, .ptr 1000000000 0), (2, .ptr 1000000001 0), (3, .ptr 1000000002 0)] [⟨33, (List.map AV.d (api_Packet.enc b0))⟩, ⟨33, (List.map AV.d (api_Packet.enc b1))⟩, ⟨33, (List.map AV.d (api_Packet.enc b2))⟩] [] [] []) =
 cond (b0.Kind == 2) (
 R31_16 (C31 Γ) Λ2 J (api_Packet.enc b0) (api_Packet.enc b1) (api_Packet.enc (api_Packet.mk b2.Kind b2.ID b2.Dup b2.Message b2.Client b2.User b2.Clean b2.Keep b2.Expiry b2.Window b2.Will b2.Present b0.Code b2.Subs b2.Filters b2.Codes))) (
 cond (b0.Kind == 14) (
 R31_16 (C31 Γ) Λ2 J (api_Packet.enc b0) (api_Packet.enc b1) (api_Packet.enc (api_Packet.mk b2.Kind b2.ID b2.Dup b2.Message b2.Client b2.User b2.Clean b2.Keep b2.Expiry b2.Window b2.Will b2.Present b0.Code b2.Subs b2.Filters b2.Codes))) (
 R31_16 (C31 Γ) Λ2 J (api_Packet.enc b0) (api_Packet.enc b1) (api_Packet.enc b2))) := by kernel_rfl
theorem T31_12 (Γ : Fun)  (Λ2 J : Lam) (b0 : api_Packet) (b1 : api_Packet) (b2 : api_Packet) : labU SE (C31 Γ) Λ2 J 31 0 [1, 1, 1, 1, 0, 0] (stoOf [(1, .ptr 1000000000 0), (2, .ptr 1000000001 0), (3, .ptr 1000000002 0)] [⟨33, (List.map AV.d (api_Packet.enc b0))⟩, ⟨33, (List.map AV.d (api_Packet.enc b1))⟩, ⟨33, (List.map AV.d (api_Packet.enc b2))⟩] [] [] []) =
 cond (b0.Kind == 2) (
 R31_14 (C31 Γ) Λ2 J (api_Packet.enc b0) (api_Packet.enc b1) (api_Packet.enc (api_Packet.mk b2.Kind b2.ID b2.Dup b2.Message b2.Client b2.User b2.Clean b2.Keep b2.Expiry b2.Window b2.Will b0.Present b2.Code b2.Subs b2.Filters b2.Codes))) (
 R31_14 (C31 Γ) Λ2 J (api_Packet.enc b0) (api_Packet.enc b1) (api_Packet.enc b2)) := by kernel_rfl
theorem T31_4 (Γ : Fun)  (Λ2 J : Lam) (b0 : api_Packet) (b1 : api_Packet) (b2 : api_Packet) : labU SE (C31 Γ) Λ2 J 31 0 [1, 1, 1, 0, 0] (stoOf [(1, .ptr 1000000000 0), (2, .ptr 1000000001 0), (3, .ptr 1000000002 0)] [⟨33, (List.map AV.d (api_Packet.enc b0))⟩, ⟨33, (List.map AV.d (api_Packet.enc b1))⟩, ⟨33, (List.map AV.d (api_Packet.enc b2))⟩] [] [] []) =
 cond (b0.Kind == 1) (
 R31_12 (C31 Γ) Λ2 J (api_Packet.enc b0) (api_Packet.enc b1) (api_Packet.enc (api_Packet.mk b2.Kind b2.ID b2.Dup b2.Message b0.Client b0.User b0.Clean b0.Keep b0.Expiry b0.Window b0.Will b2.Present b2.Code b2.Subs b2.Filters b2.Codes))) (
 R31_12 (C31 Γ) Λ2 J (api_Packet.enc b0) (api_Packet.enc b1) (api_Packet.enc b2)) := by kernel_rfl
abbrev X31 : CFun := C31 (callG SE good)
theorem Cr31 : C31 (callG SE good) = bindC (callG SE good) := by unfold C31; rfl
noncomputable abbrev Q31_23 (a0 : (List D)) (a1 : (List D)) (a2 : (List D)) : Res := R31_23 X31 (lam2 SE (callG SE good) (SE.hl 31) (SE.hr 31)) (J0 SE X31) a0 a1 a2
noncomputable abbrev Q31_21 (a0 : (List D)) (a1 : (List D)) (a2 : (List D)) : Res := R31_21 X31 (lam2 SE (callG SE good) (SE.hl 31) (SE.hr 31)) (J0 SE X31) a0 a1 a2
noncomputable abbrev Q31_19 (a0 : (List D)) (a1 : (List D)) (a2 : (List D)) : Res := R31_19 X31 (lam2 SE (callG SE good) (SE.hl 31) (SE.hr 31)) (J0 SE X31) a0 a1 a2
noncomputable abbrev Q31_16 (a0 : (List D)) (a1 : (List D)) (a2 : (List D)) : Res := R31_16 X31 (lam2 SE (callG SE good) (SE.hl 31) (SE.hr 31)) (J0 SE X31) a0 a1 a2
noncomputable abbrev Q31_14 (a0 : (List D)) (a1 : (List D)) (a2 : (List D)) : Res := R31_14 X31 (lam2 SE (callG SE good) (SE.hl 31) (SE.hr 31)) (J0 SE X31) a0 a1 a2
noncomputable abbrev Q31_12 (a0 : (List D)) (a1 : (List D)) (a2 : (List D)) : Res := R31_12 X31 (lam2 SE (callG SE good) (SE.hl 31) (SE.hr 31)) (J0 SE X31) a0 a1 a2
noncomputable abbrev Q31_4 (a0 : (List D)) (a1 : (List D)) (a2 : (List D)) : Res := R31_4 X31 (lam2 SE (callG SE good) (SE.hl 31) (SE.hr 31)) (J0 SE X31) a0 a1 a2
theorem brokerref06_Used_j23_ok (b0 : api_Packet) (b1 : api_Packet) (b2 : api_Packet) : Le (Option.map brokerref06_Used_out (brokerref06_Used_j23 b0 b1 b2)) (Q31_23 (api_Packet.enc b0) (api_Packet.enc b1) (api_Packet.enc b2)) := by
 refine Le.trans ?_ (le_of_eq ((lab_realC Cr31).trans (T31_23 _ _ _  b0 b1 b2)).symm)
 unfold brokerref06_Used_j23
 refine le_cond rfl (fun _ => ?_) (fun _ => ?_)
 ·exact le_ret (by first | rfl | simp only [EN, brokerref06_Used_out] <;> rfl)
 ·refine le_cond rfl (fun _ => ?_) (fun _ => ?_)
  ·exact le_ret (by first | rfl | simp only [EN, brokerref06_Used_out] <;> rfl)
  ·exact le_ret (by first | rfl | simp only [EN, brokerref06_Used_out] <;> rfl)
theorem brokerref06_Used_j21_ok (b0 : api_Packet) (b1 : api_Packet) (b2 : api_Packet) : Le (Option.map brokerref06_Used_out (brokerref06_Used_j21 b0 b1 b2)) (Q31_21 (api_Packet.enc b0) (api_Packet.enc b1) (api_Packet.enc b2)) := by
 refine Le.trans ?_ (le_of_eq ((lab_realC Cr31).trans (T31_21 _ _ _  b0 b1 b2)).symm)
 unfold brokerref06_Used_j21
 refine le_cond rfl (fun _ => ?_) (fun _ => ?_)
 ·exact brokerref06_Used_j23_ok b0 b1 (api_Packet.mk b2.Kind b2.ID b2.Dup b2.Message b2.Client b2.User b2.Clean b2.Keep b2.Expiry b2.Window b2.Will b2.Present b2.Code b2.Subs b0.Filters b2.Codes)
 ·exact brokerref06_Used_j23_ok b0 b1 b2
theorem brokerref06_Used_j19_ok (b0 : api_Packet) (b1 : api_Packet) (b2 : api_Packet) : Le (Option.map brokerref06_Used_out (brokerref06_Used_j19 b0 b1 b2)) (Q31_19 (api_Packet.enc b0) (api_Packet.enc b1) (api_Packet.enc b2)) := by
 refine Le.trans ?_ (le_of_eq ((lab_realC Cr31).trans (T31_19 _ _ _  b0 b1 b2)).symm)
 unfold brokerref06_Used_j19
 refine le_cond rfl (fun _ => ?_) (fun _ => ?_)
 ·exact brokerref06_Used_j21_ok b0 b1 (api_Packet.mk b2.Kind b2.ID b2.Dup b2.Message b2.Client b2.User b2.Clean b2.Keep b2.Expiry b2.Window b2.Will b2.Present b2.Code b0.Subs b2.Filters b2.Codes)
 ·exact brokerref06_Used_j21_ok b0 b1 b2
theorem brokerref06_Used_j16_ok (b0 : api_Packet) (b1 : api_Packet) (b2 : api_Packet) : Le (Option.map brokerref06_Used_out (brokerref06_Used_j16 b0 b1 b2)) (Q31_16 (api_Packet.enc b0) (api_Packet.enc b1) (api_Packet.enc b2)) := by
 refine Le.trans ?_ (le_of_eq ((lab_realC Cr31).trans (T31_16 _ _ _  b0 b1 b2)).symm)
 unfold brokerref06_Used_j16
 refine le_cond rfl (fun _ => ?_) (fun _ => ?_)
 ·exact brokerref06_Used_j19_ok b0 b1 (api_Packet.mk b2.Kind b2.ID b0.Dup b0.Message b2.Client b2.User b2.Clean b2.Keep b2.Expiry b2.Window b2.Will b2.Present b2.Code b2.Subs b2.Filters b2.Codes)
 ·exact brokerref06_Used_j19_ok b0 b1 b2
theorem brokerref06_Used_j14_ok (b0 : api_Packet) (b1 : api_Packet) (b2 : api_Packet) : Le (Option.map brokerref06_Used_out (brokerref06_Used_j14 b0 b1 b2)) (Q31_14 (api_Packet.enc b0) (api_Packet.enc b1) (api_Packet.enc b2)) := by
 refine Le.trans ?_ (le_of_eq ((lab_realC Cr31).trans (T31_14 _ _ _  b0 b1 b2)).symm)
 unfold brokerref06_Used_j14
 refine le_cond rfl (fun _ => ?_) (fun _ => ?_)
 ·exact brokerref06_Used_j16_ok b0 b1 (api_Packet.mk b2.Kind b2.ID b2.Dup b2.Message b2.Client b2.User b2.Clean b2.Keep b2.Expiry b2.Window b2.Will b2.Present b0.Code b2.Subs b2.Filters b2.Codes)
 ·refine le_cond rfl (fun _ => ?_) (fun _ => ?_)
  ·exact brokerref06_Used_j16_ok b0 b1 (api_Packet.mk b2.Kind b2.ID b2.Dup b2.Message b2.Client b2.User b2.Clean b2.Keep b2.Expiry b2.Window b2.Will b2.Present b0.Code b2.Subs b2.Filters b2.Codes)
  ·exact brokerref06_Used_j16_ok b0 b1 b2
theorem brokerref06_Used_j12_ok (b0 : api_Packet) (b1 : api_Packet) (b2 : api_Packet) : Le (Option.map brokerref06_Used_out (brokerref06_Used_j12 b0 b1 b2)) (Q31_12 (api_Packet.enc b0) (api_Packet.enc b1) (api_Packet.enc b2)) := by
 refine Le.trans ?_ (le_of_eq ((lab_realC Cr31).trans (T31_12 _ _ _  b0 b1 b2)).symm)
 unfold brokerref06_Used_j12
 refine le_cond rfl (fun _ => ?_) (fun _ => ?_)
 ·exact brokerref06_Used_j14_ok b0 b1 (api_Packet.mk b2.Kind b2.ID b2.Dup b2.Message b2.Client b2.User b2.Clean b2.Keep b2.Expiry b2.Window b2.Will b0.Present b2.Code b2.Subs b2.Filters b2.Codes)
 ·exact brokerref06_Used_j14_ok b0 b1 b2
theorem brokerref06_Used_j4_ok (b0 : api_Packet) (b1 : api_Packet) (b2 : api_Packet) : Le (Option.map brokerref06_Used_out (brokerref06_Used_j4 b0 b1 b2)) (Q31_4 (api_Packet.enc b0) (api_Packet.enc b1) (api_Packet.enc b2)) := by
 refine Le.trans ?_ (le_of_eq ((lab_realC Cr31).trans (T31_4 _ _ _  b0 b1 b2)).symm)
 unfold brokerref06_Used_j4
 refine le_cond rfl (fun _ => ?_) (fun _ => ?_)
 ·exact brokerref06_Used_j12_ok b0 b1 (api_Packet.mk b2.Kind b2.ID b2.Dup b2.Message b0.Client b0.User b0.Clean b0.Keep b0.Expiry b0.Window b0.Will b2.Present b2.Code b2.Subs b2.Filters b2.Codes)
 ·exact brokerref06_Used_j12_ok b0 b1 b2
theorem brokerref06_Used_ok (p0 : api_Packet) : Le (Option.map brokerref06_Used_out (brokerref06_Used p0)) (callW SE 31 [api_Packet.av p0] [] []) := by
 refine le_bodyC Cr31 rfl ?_
 refine Le.trans ?_ (le_of_eq (T31 _ _ _  p0).symm)
 unfold brokerref06_Used
 refine le_cond rfl (fun _ => ?_) (fun _ => ?_)
 ·first | (simp only [EN]; exact brokerref06_Used_j4_ok p0 ((api_Packet.mk 0 0 false (api_Message.mk ([] : Str) ([] : Str) 0 false 0 0 ([] : Str) 0 ([] : List api_Prop)) ([] : Str) ([] : Str) false 0 0 0 (api_Will.mk false 0 (api_Message.mk ([] : Str) ([] : Str) 0 false 0 0 ([] : Str) 0 ([] : List api_Prop))) false 0 ([] : List api_Sub) ([] : List Str) ([] : List Int))) ((api_Packet.mk p0.Kind p0.ID false (api_Message.mk ([] : Str) ([] : Str) 0 false 0 0 ([] : Str) 0 ([] : List api_Prop)) ([] : Str) ([] : Str) false 0 0 0 (api_Will.mk false 0 (api_Message.mk ([] : Str) ([] : Str) 0 false 0 0 ([] : Str) 0 ([] : List api_Prop))) false 0 ([] : List api_Sub) ([] : List Str) ([] : List Int)))) | exact brokerref06_Used_j4_ok p0 ((api_Packet.mk 0 0 false (api_Message.mk ([] : Str) ([] : Str) 0 false 0 0 ([] : Str) 0 ([] : List api_Prop)) ([] : Str) ([] : Str) false 0 0 0 (api_Will.mk false 0 (api_Message.mk ([] : Str) ([] : Str) 0 false 0 0 ([] : Str) 0 ([] : List api_Prop))) false 0 ([] : List api_Sub) ([] : List Str) ([] : List Int))) ((api_Packet.mk p0.Kind p0.ID false (api_Message.mk ([] : Str) ([] : Str) 0 false 0 0 ([] : Str) 0 ([] : List api_Prop)) ([] : Str) ([] : Str) false 0 0 0 (api_Will.mk false 0 (api_Message.mk ([] : Str) ([] : Str) 0 false 0 0 ([] : Str) 0 ([] : List api_Prop))) false 0 ([] : List api_Sub) ([] : List Str) ([] : List Int)))
 ·refine le_cond rfl (fun _ => ?_) (fun _ => ?_)
  ·refine le_cond rfl (fun _ => ?_) (fun _ => ?_)
   ·first | (simp only [EN]; exact brokerref06_Used_j4_ok p0 ((api_Packet.mk 0 0 false (api_Message.mk ([] : Str) ([] : Str) 0 false 0 0 ([] : Str) 0 ([] : List api_Prop)) ([] : Str) ([] : Str) false 0 0 0 (api_Will.mk false 0 (api_Message.mk ([] : Str) ([] : Str) 0 false 0 0 ([] : Str) 0 ([] : List api_Prop))) false 0 ([] : List api_Sub) ([] : List Str) ([] : List Int))) ((api_Packet.mk p0.Kind p0.ID false (api_Message.mk ([] : Str) ([] : Str) 0 false 0 0 ([] : Str) 0 ([] : List api_Prop)) ([] : Str) ([] : Str) false 0 0 0 (api_Will.mk false 0 (api_Message.mk ([] : Str) ([] : Str) 0 false 0 0 ([] : Str) 0 ([] : List api_Prop))) false 0 ([] : List api_Sub) ([] : List Str) ([] : List Int)))) | exact brokerref06_Used_j4_ok p0 ((api_Packet.mk 0 0 false (api_Message.mk ([] : Str) ([] : Str) 0 false 0 0 ([] : Str) 0 ([] : List api_Prop)) ([] : Str) ([] : Str) false 0 0 0 (api_Will.mk false 0 (api_Message.mk ([] : Str) ([] : Str) 0 false 0 0 ([] : Str) 0 ([] : List api_Prop))) false 0 ([] : List api_Sub) ([] : List Str) ([] : List Int))) ((api_Packet.mk p0.Kind p0.ID false (api_Message.mk ([] : Str) ([] : Str) 0 false 0 0 ([] : Str) 0 ([] : List api_Prop)) ([] : Str) ([] : Str) false 0 0 0 (api_Will.mk false 0 (api_Message.mk ([] : Str) ([] : Str) 0 false 0 0 ([] : Str) 0 ([] : List api_Prop))) false 0 ([] : List api_Sub) ([] : List Str) ([] : List Int)))
   ·first | (simp only [EN]; exact brokerref06_Used_j4_ok p0 ((api_Packet.mk 0 0 false (api_Message.mk ([] : Str) ([] : Str) 0 false 0 0 ([] : Str) 0 ([] : List api_Prop)) ([] : Str) ([] : Str) false 0 0 0 (api_Will.mk false 0 (api_Message.mk ([] : Str) ([] : Str) 0 false 0 0 ([] : Str) 0 ([] : List api_Prop))) false 0 ([] : List api_Sub) ([] : List Str) ([] : List Int))) ((api_Packet.mk p0.Kind 0 false (api_Message.mk ([] : Str) ([] : Str) 0 false 0 0 ([] : Str) 0 ([] : List api_Prop)) ([] : Str) ([] : Str) false 0 0 0 (api_Will.mk false 0 (api_Message.mk ([] : Str) ([] : Str) 0 false 0 0 ([] : Str) 0 ([] : List api_Prop))) false 0 ([] : List api_Sub) ([] : List Str) ([] : List Int)))) | exact brokerref06_Used_j4_ok p0 ((api_Packet.mk 0 0 false (api_Message.mk ([] : Str) ([] : Str) 0 false 0 0 ([] : Str) 0 ([] : List api_Prop)) ([] : Str) ([] : Str) false 0 0 0 (api_Will.mk false 0 (api_Message.mk ([] : Str) ([] : Str) 0 false 0 0 ([] : Str) 0 ([] : List api_Prop))) false 0 ([] : List api_Sub) ([] : List Str) ([] : List Int))) ((api_Packet.mk p0.Kind 0 false (api_Message.mk ([] : Str) ([] : Str) 0 false 0 0 ([] : Str) 0 ([] : List api_Prop)) ([] : Str) ([] : Str) false 0 0 0 (api_Will.mk false 0 (api_Message.mk ([] : Str) ([] : Str) 0 false 0 0 ([] : Str) 0 ([] : List api_Prop))) false 0 ([] : List api_Sub) ([] : List Str) ([] : List Int)))
  ·first | (simp only [EN]; exact brokerref06_Used_j4_ok p0 ((api_Packet.mk 0 0 false (api_Message.mk ([] : Str) ([] : Str) 0 false 0 0 ([] : Str) 0 ([] : List api_Prop)) ([] : Str) ([] : Str) false 0 0 0 (api_Will.mk false 0 (api_Message.mk ([] : Str) ([] : Str) 0 false 0 0 ([] : Str) 0 ([] : List api_Prop))) false 0 ([] : List api_Sub) ([] : List Str) ([] : List Int))) ((api_Packet.mk p0.Kind 0 false (api_Message.mk ([] : Str) ([] : Str) 0 false 0 0 ([] : Str) 0 ([] : List api_Prop)) ([] : Str) ([] : Str) false 0 0 0 (api_Will.mk false 0 (api_Message.mk ([] : Str) ([] : Str) 0 false 0 0 ([] : Str) 0 ([] : List api_Prop))) false 0 ([] : List api_Sub) ([] : List Str) ([] : List Int)))) | exact brokerref06_Used_j4_ok p0 ((api_Packet.mk 0 0 false (api_Message.mk ([] : Str) ([] : Str) 0 false 0 0 ([] : Str) 0 ([] : List api_Prop)) ([] : Str) ([] : Str) false 0 0 0 (api_Will.mk false 0 (api_Message.mk ([] : Str) ([] : Str) 0 false 0 0 ([] : Str) 0 ([] : List api_Prop))) false 0 ([] : List api_Sub) ([] : List Str) ([] : List Int))) ((api_Packet.mk p0.Kind 0 false (api_Message.mk ([] : Str) ([] : Str) 0 false 0 0 ([] : Str) 0 ([] : List api_Prop)) ([] : Str) ([] : Str) false 0 0 0 (api_Will.mk false 0 (api_Message.mk ([] : Str) ([] : Str) 0 false 0 0 ([] : Str) 0 ([] : List api_Prop))) false 0 ([] : List api_Sub) ([] : List Str) ([] : List Int)))
def C75 (Γ : Fun)  : CFun := bindC Γ
def R75_4 (C : CFun) (Λ2 J : Lam) (a0 : (List (List D))) (a1 : (List (List D))) (a2 : Int) : Res := lab SE C Λ2 J 75 0 [1, 1, 0, 1, 0] (stoOf [(0, .d (.sl api_Prop.ks a0)), (1, .d (.sl api_Prop.ks a1)), (5, .d (.int .i64 a2))] [] [] [] [])
theorem T75 (Γ : Fun)  (Λ2 J : Lam) (p0 : (List api_Prop)) (p1 : (List api_Prop)) : bodyC SE (C75 Γ) Λ2 J 75 [.d (.sl api_Prop.ks (List.map api_Prop.enc p0)), .d (.sl api_Prop.ks (List.map api_Prop.enc p1))] [] [] =
 cond ((List.length (List.map api_Prop.enc p0) : Int) != (List.length (List.map api_Prop.enc p1) : Int)) (
 (some (.ret [.d (.bool false)] [] []))) (
 R75_4 (C75 Γ) Λ2 J (List.map api_Prop.enc p0) (List.map api_Prop.enc p1) 0) := by kernel_rfl
theorem T75_4 (Γ : Fun)  (Λ2 J : Lam) (x0 : (List api_Prop)) (x1 : (List api_Prop)) (x5 : Int) : labU SE (C75 Γ) Λ2 J 75 0 [1, 1, 0, 1, 0] (stoOf [(0, .d (.sl api_Prop.ks (List.map api_Prop.enc x0))), (1, .d (.sl api_Prop.ks (List.map api_Prop.enc x1))), (5, .d (.int .i64 x5))] [] [] [] []) =
 cond (decide (x5 < (List.length (List.map api_Prop.enc x0) : Int))) (
 cond (decide (0 ≤ x5) && decide (x5 < (List.length (List.map api_Prop.enc x0) : Int))) (
  cond (decide (0 ≤ x5) && decide (x5 < (List.length (List.map api_Prop.enc x1) : Int))) (
  cond (!(((dStr (cellAt (elemAt (List.map api_Prop.enc x0) (Int.toNat x5)) 0)) == (dStr (cellAt (elemAt (List.map api_Prop.enc x1) (Int.toNat x5)) 0))) && (((dStr (cellAt (elemAt (List.map api_Prop.enc x0) (Int.toNat x5)) 1)) == (dStr (cellAt (elemAt (List.map api_Prop.enc x1) (Int.toNat x5)) 1))) && true))) (
   (some (.ret [.d (.bool false)] [] []))) (
  R75_4 (C75 Γ) Λ2 J (List.map api_Prop.enc x0) (List.map api_Prop.enc x1) (IntKind.wrap .i64 (x5 + 1)))) none) none) (
 (some (.ret [.d (.bool true)] [] []))) := by kernel_rfl
abbrev X75 : CFun := C75 (callG SE good)
theorem Cr75 : C75 (callG SE good) = bindC (callG SE good) := by unfold C75; rfl
noncomputable abbrev Q75_4 (a0 : (List (List D))) (a1 : (List (List D))) (a2 : Int) : Res := R75_4 X75 (lam2 SE (callG SE good) (SE.hl 75) (SE.hr 75)) (J0 SE X75) a0 a1 a2
theorem brokerref05_SameProps_l4_ok : ∀ (fu : Nat) (x0 : (List api_Prop)) (x1 : (List api_Prop)) (x5 : Int), Le (Option.map brokerref05_SameProps_out (brokerref05_SameProps_l4 fu x0 x1 x5)) (Q75_4 (List.map api_Prop.enc x0) (List.map api_Prop.enc x1) x5) := by
 intro fu
 induction fu with
 | zero => intros; exact le_none
 | succ fu ih =>
  intro x0 x1 x5
  refine Le.trans ?_ (le_of_eq ((lab_realC Cr75).trans (T75_4 _ _ _  x0 x1 x5)).symm)
  unfold brokerref05_SameProps_l4
  refine le_cond (by simp only [EN]) (fun _ => ?_) (fun _ => ?_)
  ·refine le_cond (by simp only [EN]) (fun _ => ?_) (fun _ => le_none)
   refine le_cond (by simp only [EN]) (fun _ => ?_) (fun _ => le_none)
   refine le_cond (by simp only [EN]) (fun _ => ?_) (fun _ => ?_)
   ·exact le_ret (by first | rfl | simp only [EN, brokerref05_SameProps_out] <;> rfl)
   ·exact ih x0 x1 (IntKind.wrap .i64 (x5 + 1))
  ·exact le_ret (by first | rfl | simp only [EN, brokerref05_SameProps_out] <;> rfl)
theorem brokerref05_SameProps_ok (p0 : (List api_Prop)) (p1 : (List api_Prop)) : Le (Option.map brokerref05_SameProps_out (brokerref05_SameProps p0 p1)) (callW SE 75 [.d (.sl api_Prop.ks (List.map api_Prop.enc p0)), .d (.sl api_Prop.ks (List.map api_Prop.enc p1))] [] []) := by
 refine le_bodyC Cr75 rfl ?_
 refine Le.trans ?_ (le_of_eq (T75 _ _ _  p0 p1).symm)
 unfold brokerref05_SameProps
 refine le_cond (by simp only [EN]) (fun _ => ?_) (fun _ => ?_)
 ·exact le_ret (by first | rfl | simp only [EN, brokerref05_SameProps_out] <;> rfl)
 ·exact brokerref05_SameProps_l4_ok fuel p0 p1 0
def C50 (Γ : Fun) (γ75 : Gm (Bool)) : CFun := updC (bindC Γ) 75 brokerref05_SameProps_out γ75
theorem T50 (Γ : Fun) (γ75 : Gm (Bool)) (Λ2 J : Lam) (p0 : api_Message) (p1 : api_Message) : bodyC SE (C50 Γ γ75) Λ2 J 50 [api_Message.av p0, api_Message.av p1] [] [] =
 cond (p0.Topic == p1.Topic) (
 cond (p0.Payload == p1.Payload) (
  cond (p0.Level == p1.Level) (
  cond (p0.Retain == p1.Retain) (
   cond (p0.Priority == p1.Priority) (
   cond (p0.Expires == p1.Expires) (
    cond (p0.From == p1.From) (
    cond (p0.Seq == p1.Seq) (
     γ75 [.d (.sl api_Prop.ks (List.map api_Prop.enc p0.Props)), .d (.sl api_Prop.ks (List.map api_Prop.enc p1.Props))] [] [] fun r0 =>
     (some (.ret [.d (.bool r0)] [] []))) (
    (some (.ret [.d (.bool false)] [] [])))) (
    (some (.ret [.d (.bool false)] [] [])))) (
   (some (.ret [.d (.bool false)] [] [])))) (
   (some (.ret [.d (.bool false)] [] [])))) (
  (some (.ret [.d (.bool false)] [] [])))) (
  (some (.ret [.d (.bool false)] [] [])))) (
 (some (.ret [.d (.bool false)] [] [])))) (
 (some (.ret [.d (.bool false)] [] []))) := by kernel_rfl
abbrev X50 : CFun := C50 (callG SE good) (callT SE good 75 brokerref05_SameProps_out)
theorem Cr50 : C50 (callG SE good) (callT SE good 75 brokerref05_SameProps_out) = bindC (callG SE good) := by unfold C50; rw [updC_real (fun _ h => h)]
theorem brokerref05_Same_ok (p0 : api_Message) (p1 : api_Message) : Le (Option.map brokerref05_Same_out (brokerref05_Same p0 p1)) (callW SE 50 [api_Message.av p0, api_Message.av p1] [] []) := by
 refine le_bodyC Cr50 rfl ?_
 refine Le.trans ?_ (le_of_eq (T50 _ _ _ _  p0 p1).symm)
 unfold brokerref05_Same
 refine le_cond rfl (fun _ => ?_) (fun _ => ?_)
 ·refine le_cond rfl (fun _ => ?_) (fun _ => ?_)
  ·refine le_cond rfl (fun _ => ?_) (fun _ => ?_)
   ·refine le_cond rfl (fun _ => ?_) (fun _ => ?_)
    ·refine le_cond rfl (fun _ => ?_) (fun _ => ?_)
     ·refine le_cond rfl (fun _ => ?_) (fun _ => ?_)
      ·refine le_cond rfl (fun _ => ?_) (fun _ => ?_)
       ·refine le_cond rfl (fun _ => ?_) (fun _ => ?_)
        ·refine le_call (good := good) (fun y => ⟨y, rfl⟩) brokerref05_SameProps_inj (brokerref05_SameProps_ok p0.Props p1.Props) (fun r0 _ => ?_)
         exact le_ret (by first | rfl | simp only [EN, brokerref05_Same_out] <;> rfl)
        ·exact le_ret (by first | rfl | simp only [EN, brokerref05_Same_out] <;> rfl)
       ·exact le_ret (by first | rfl | simp only [EN, brokerref05_Same_out] <;> rfl)
      ·exact le_ret (by first | rfl | simp only [EN, brokerref05_Same_out] <;> rfl)
     ·exact le_ret (by first | rfl | simp only [EN, brokerref05_Same_out] <;> rfl)
    ·exact le_ret (by first | rfl | simp only [EN, brokerref05_Same_out] <;> rfl)
   ·exact le_ret (by first | rfl | simp only [EN, brokerref05_Same_out] <;> rfl)
  ·exact le_ret (by first | rfl | simp only [EN, brokerref05_Same_out] <;> rfl)
 ·exact le_ret (by first | rfl | simp only [EN, brokerref05_Same_out] <;> rfl)
def C51 (Γ : Fun) (γ50 : Gm (Bool)) : CFun := updC (bindC Γ) 50 brokerref05_Same_out γ50
theorem T51 (Γ : Fun) (γ50 : Gm (Bool)) (Λ2 J : Lam) (p0 : api_Will) (p1 : api_Will) : bodyC SE (C51 Γ γ50) Λ2 J 51 [api_Will.av p0, api_Will.av p1] [] [] =
 cond (p0.Set == p1.Set) (
 cond (p0.Delay == p1.Delay) (
  γ50 [api_Message.av p0.Message, api_Message.av p1.Message] [] [] fun r0 =>
  (some (.ret [.d (.bool r0)] [] []))) (
 (some (.ret [.d (.bool false)] [] [])))) (
 (some (.ret [.d (.bool false)] [] []))) := by kernel_rfl
abbrev X51 : CFun := C51 (callG SE good) (callT SE good 50 brokerref05_Same_out)
theorem Cr51 : C51 (callG SE good) (callT SE good 50 brokerref05_Same_out) = bindC (callG SE good) := by unfold C51; rw [updC_real (fun _ h => h)]
theorem brokerref06_SameWill_ok (p0 : api_Will) (p1 : api_Will) : Le (Option.map brokerref06_SameWill_out (brokerref06_SameWill p0 p1)) (callW SE 51 [api_Will.av p0, api_Will.av p1] [] []) := by
 refine le_bodyC Cr51 rfl ?_
 refine Le.trans ?_ (le_of_eq (T51 _ _ _ _  p0 p1).symm)
 unfold brokerref06_SameWill
 refine le_cond rfl (fun _ => ?_) (fun _ => ?_)
 ·refine le_cond rfl (fun _ => ?_) (fun _ => ?_)
  ·refine le_call (good := good) (fun y => ⟨y, rfl⟩) brokerref05_Same_inj (brokerref05_Same_ok p0.Message p1.Message) (fun r0 _ => ?_)
   exact le_ret (by first | rfl | simp only [EN, brokerref06_SameWill_out] <;> rfl)
  ·exact le_ret (by first | rfl | simp only [EN, brokerref06_SameWill_out] <;> rfl)
 ·exact le_ret (by first | rfl | simp only [EN, brokerref06_SameWill_out] <;> rfl)
def C52 (Γ : Fun)  : CFun := bindC Γ
def R52_4 (C : CFun) (Λ2 J : Lam) (a0 : (List (List D))) (a1 : (List (List D))) (a2 : Int) : Res := lab SE C Λ2 J 52 0 [1, 1, 0, 1, 0] (stoOf [(0, .d (.sl api_Sub.ks a0)), (1, .d (.sl api_Sub.ks a1)), (5, .d (.int .i64 a2))] [] [] [] [])
theorem T52 (Γ : Fun)  (Λ2 J : Lam) (p0 : (List api_Sub)) (p1 : (List api_Sub)) : bodyC SE (C52 Γ) Λ2 J 52 [.d (.sl api_Sub.ks (List.map api_Sub.enc p0)), .d (.sl api_Sub.ks (List.map api_Sub.enc p1))] [] [] =
 cond ((List.length (List.map api_Sub.enc p0) : Int) != (List.length (List.map api_Sub.enc p1) : Int)) (
 (some (.ret [.d (.bool false)] [] []))) (
 R52_4 (C52 Γ) Λ2 J (List.map api_Sub.enc p0) (List.map api_Sub.enc p1) 0) := by kernel_rfl
theorem T52_4 (Γ : Fun)  (Λ2 J : Lam) (x0 : (List api_Sub)) (x1 : (List api_Sub)) (x5 : Int) : labU SE (C52 Γ) Λ2 J 52 0 [1, 1, 0, 1, 0] (stoOf [(0, .d (.sl api_Sub.ks (List.map api_Sub.enc x0))), (1, .d (.sl api_Sub.ks (List.map api_Sub.enc x1))), (5, .d (.int .i64 x5))] [] [] [] []) =
 cond (decide (x5 < (List.length (List.map api_Sub.enc x0) : Int))) (
 cond (decide (0 ≤ x5) && decide (x5 < (List.length (List.map api_Sub.enc x0) : Int))) (
  cond (decide (0 ≤ x5) && decide (x5 < (List.length (List.map api_Sub.enc x1) : Int))) (
  cond (!(((dStr (cellAt (elemAt (List.map api_Sub.enc x0) (Int.toNat x5)) 0)) == (dStr (cellAt (elemAt (List.map api_Sub.enc x1) (Int.toNat x5)) 0))) && (((dInt (cellAt (elemAt (List.map api_Sub.enc x0) (Int.toNat x5)) 1)) == (dInt (cellAt (elemAt (List.map api_Sub.enc x1) (Int.toNat x5)) 1))) && (((dBool (cellAt (elemAt (List.map api_Sub.enc x0) (Int.toNat x5)) 2)) == (dBool (cellAt (elemAt (List.map api_Sub.enc x1) (Int.toNat x5)) 2))) && true)))) (
   (some (.ret [.d (.bool false)] [] []))) (
  R52_4 (C52 Γ) Λ2 J (List.map api_Sub.enc x0) (List.map api_Sub.enc x1) (IntKind.wrap .i64 (x5 + 1)))) none) none) (
 (some (.ret [.d (.bool true)] [] []))) := by kernel_rfl
abbrev X52 : CFun := C52 (callG SE good)
theorem Cr52 : C52 (callG SE good) = bindC (callG SE good) := by unfold C52; rfl
noncomputable abbrev Q52_4 (a0 : (List (List D))) (a1 : (List (List D))) (a2 : Int) : Res := R52_4 X52 (lam2 SE (callG SE good) (SE.hl 52) (SE.hr 52)) (J0 SE X52) a0 a1 a2
theorem brokerref06_SameSubs_l4_ok : ∀ (fu : Nat) (x0 : (List api_Sub)) (x1 : (List api_Sub)) (x5 : Int), Le (Option.map brokerref06_SameSubs_out (brokerref06_SameSubs_l4 fu x0 x1 x5)) (Q52_4 (List.map api_Sub.enc x0) (List.map api_Sub.enc x1) x5) := by
 intro fu
 induction fu with
 | zero => intros; exact le_none
 | succ fu ih =>
  intro x0 x1 x5
  refine Le.trans ?_ (le_of_eq ((lab_realC Cr52).trans (T52_4 _ _ _  x0 x1 x5)).symm)
  unfold brokerref06_SameSubs_l4
  refine le_cond (by simp only [EN]) (fun _ => ?_) (fun _ => ?_)
  ·refine le_cond (by simp only [EN]) (fun _ => ?_) (fun _ => le_none)
   refine le_cond (by simp only [EN]) (fun _ => ?_) (fun _ => le_none)
   refine le_cond (by simp only [EN]) (fun _ => ?_) (fun _ => ?_)
   ·exact le_ret (by first | rfl | simp only [EN, brokerref06_SameSubs_out] <;> rfl)
   ·exact ih x0 x1 (IntKind.wrap .i64 (x5 + 1))
  ·exact le_ret (by first | rfl | simp only [EN, brokerref06_SameSubs_out] <;> rfl)
theorem brokerref06_SameSubs_ok (p0 : (List api_Sub)) (p1 : (List api_Sub)) : Le (Option.map brokerref06_SameSubs_out (brokerref06_SameSubs p0 p1)) (callW SE 52 [.d (.sl api_Sub.ks (List.map api_Sub.enc p0)), .d (.sl api_Sub.ks (List.map api_Sub.enc p1))] [] []) := by
 refine le_bodyC Cr52 rfl ?_
 refine Le.trans ?_ (le_of_eq (T52 _ _ _  p0 p1).symm)
 unfold brokerref06_SameSubs
 refine le_cond (by simp only [EN]) (fun _ => ?_) (fun _ => ?_)
 ·exact le_ret (by first | rfl | simp only [EN, brokerref06_SameSubs_out] <;> rfl)
 ·exact brokerref06_SameSubs_l4_ok fuel p0 p1 0
def C53 (Γ : Fun)  : CFun := bindC Γ
def R53_4 (C : CFun) (Λ2 J : Lam) (a0 : (List (List D))) (a1 : (List (List D))) (a2 : Int) : Res := lab SE C Λ2 J 53 0 [1, 1, 0, 1, 0] (stoOf [(0, .d (.sl [.str] a0)), (1, .d (.sl [.str] a1)), (5, .d (.int .i64 a2))] [] [] [] [])
theorem T53 (Γ : Fun)  (Λ2 J : Lam) (p0 : (List Str)) (p1 : (List Str)) : bodyC SE (C53 Γ) Λ2 J 53 [.d (.sl [.str] (List.map encS p0)), .d (.sl [.str] (List.map encS p1))] [] [] =
 cond ((List.length (List.map encS p0) : Int) != (List.length (List.map encS p1) : Int)) (
 (some (.ret [.d (.bool false)] [] []))) (
 R53_4 (C53 Γ) Λ2 J (List.map encS p0) (List.map encS p1) 0) := by kernel_rfl
theorem T53_4 (Γ : Fun)  (Λ2 J : Lam) (x0 : (List Str)) (x1 : (List Str)) (x5 : Int) : labU SE (C53 Γ) Λ2 J 53 0 [1, 1, 0, 1, 0] (stoOf [(0, .d (.sl [.str] (List.map encS x0))), (1, .d (.sl [.str] (List.map encS x1))), (5, .d (.int .i64 x5))] [] [] [] []) =
 cond (decide (x5 < (List.length (List.map encS x0) : Int))) (
 cond (decide (0 ≤ x5) && decide (x5 < (List.length (List.map encS x0) : Int))) (
  cond (decide (0 ≤ x5) && decide (x5 < (List.length (List.map encS x1) : Int))) (
  cond (!((dStr (cellAt (elemAt (List.map encS x0) (Int.toNat x5)) 0)) == (dStr (cellAt (elemAt (List.map encS x1) (Int.toNat x5)) 0)))) (
   (some (.ret [.d (.bool false)] [] []))) (
  R53_4 (C53 Γ) Λ2 J (List.map encS x0) (List.map encS x1) (IntKind.wrap .i64 (x5 + 1)))) none) none) (
 (some (.ret [.d (.bool true)] [] []))) := by kernel_rfl
abbrev X53 : CFun := C53 (callG SE good)
theorem Cr53 : C53 (callG SE good) = bindC (callG SE good) := by unfold C53; rfl
noncomputable abbrev Q53_4 (a0 : (List (List D))) (a1 : (List (List D))) (a2 : Int) : Res := R53_4 X53 (lam2 SE (callG SE good) (SE.hl 53) (SE.hr 53)) (J0 SE X53) a0 a1 a2
theorem brokerref01_Same_l4_ok : ∀ (fu : Nat) (x0 : (List Str)) (x1 : (List Str)) (x5 : Int), Le (Option.map brokerref01_Same_out (brokerref01_Same_l4 fu x0 x1 x5)) (Q53_4 (List.map encS x0) (List.map encS x1) x5) := by
 intro fu
 induction fu with
 | zero => intros; exact le_none
 | succ fu ih =>
  intro x0 x1 x5
  refine Le.trans ?_ (le_of_eq ((lab_realC Cr53).trans (T53_4 _ _ _  x0 x1 x5)).symm)
  unfold brokerref01_Same_l4
  refine le_cond (by simp only [EN]) (fun _ => ?_) (fun _ => ?_)
  ·refine le_cond (by simp only [EN]) (fun _ => ?_) (fun _ => le_none)
   refine le_cond (by simp only [EN]) (fun _ => ?_) (fun _ => le_none)
   refine le_cond (by simp only [EN]) (fun _ => ?_) (fun _ => ?_)
   ·exact le_ret (by first | rfl | simp only [EN, brokerref01_Same_out] <;> rfl)
   ·exact ih x0 x1 (IntKind.wrap .i64 (x5 + 1))
  ·exact le_ret (by first | rfl | simp only [EN, brokerref01_Same_out] <;> rfl)
theorem brokerref01_Same_ok (p0 : (List Str)) (p1 : (List Str)) : Le (Option.map brokerref01_Same_out (brokerref01_Same p0 p1)) (callW SE 53 [.d (.sl [.str] (List.map encS p0)), .d (.sl [.str] (List.map encS p1))] [] []) := by
 refine le_bodyC Cr53 rfl ?_
 refine Le.trans ?_ (le_of_eq (T53 _ _ _  p0 p1).symm)
 unfold brokerref01_Same
 refine le_cond (by simp only [EN]) (fun _ => ?_) (fun _ => ?_)
 ·exact le_ret (by first | rfl | simp only [EN, brokerref01_Same_out] <;> rfl)
 ·exact brokerref01_Same_l4_ok fuel p0 p1 0
def C54 (Γ : Fun)  : CFun := bindC Γ
def R54_4 (C : CFun) (Λ2 J : Lam) (a0 : (List (List D))) (a1 : (List (List D))) (a2 : Int) : Res := lab SE C Λ2 J 54 0 [1, 1, 0, 1, 0] (stoOf [(0, .d (.sl [.int .i64] a0)), (1, .d (.sl [.int .i64] a1)), (5, .d (.int .i64 a2))] [] [] [] [])
theorem T54 (Γ : Fun)  (Λ2 J : Lam) (p0 : (List Int)) (p1 : (List Int)) : bodyC SE (C54 Γ) Λ2 J 54 [.d (.sl [.int .i64] (List.map (encI .i64) p0)), .d (.sl [.int .i64] (List.map (encI .i64) p1))] [] [] =
 cond ((List.length (List.map (encI .i64) p0) : Int) != (List.length (List.map (encI .i64) p1) : Int)) (
 (some (.ret [.d (.bool false)] [] []))) (
 R54_4 (C54 Γ) Λ2 J (List.map (encI .i64) p0) (List.map (encI .i64) p1) 0) := by kernel_rfl
theorem T54_4 (Γ : Fun)  (Λ2 J : Lam) (x0 : (List Int)) (x1 : (List Int)) (x5 : Int) : labU SE (C54 Γ) Λ2 J 54 0 [1, 1, 0, 1, 0] (stoOf [(0, .d (.sl [.int .i64] (List.map (encI .i64) x0))), (1, .d (.sl [.int .i64] (List.map (encI .i64) x1))), (5, .d (.int .i64 x5))] [] [] [] []) =
 cond (decide (x5 < (List.length (List.map (encI .i64) x0) : Int))) (
 cond (decide (0 ≤ x5) && decide (x5 < (List.length (List.map (encI .i64) x0) : Int))) (
  cond (decide (0 ≤ x5) && decide (x5 < (List.length (List.map (encI .i64) x1) : Int))) (
  cond ((dInt (cellAt (elemAt (List.map (encI .i64) x0) (Int.toNat x5)) 0)) != (dInt (cellAt (elemAt (List.map (encI .i64) x1) (Int.toNat x5)) 0))) (
   (some (.ret [.d (.bool false)] [] []))) (
  R54_4 (C54 Γ) Λ2 J (List.map (encI .i64) x0) (List.map (encI .i64) x1) (IntKind.wrap .i64 (x5 + 1)))) none) none) (
 (some (.ret [.d (.bool true)] [] []))) := by kernel_rfl
abbrev X54 : CFun := C54 (callG SE good)
theorem Cr54 : C54 (callG SE good) = bindC (callG SE good) := by unfold C54; rfl
noncomputable abbrev Q54_4 (a0 : (List (List D))) (a1 : (List (List D))) (a2 : Int) : Res := R54_4 X54 (lam2 SE (callG SE good) (SE.hl 54) (SE.hr 54)) (J0 SE X54) a0 a1 a2
theorem brokerref06_SameNumbers_l4_ok : ∀ (fu : Nat) (x0 : (List Int)) (x1 : (List Int)) (x5 : Int), Le (Option.map brokerref06_SameNumbers_out (brokerref06_SameNumbers_l4 fu x0 x1 x5)) (Q54_4 (List.map (encI .i64) x0) (List.map (encI .i64) x1) x5) := by
 intro fu
 induction fu with
 | zero => intros; exact le_none
 | succ fu ih =>
  intro x0 x1 x5
  refine Le.trans ?_ (le_of_eq ((lab_realC Cr54).trans (T54_4 _ _ _  x0 x1 x5)).symm)
  unfold brokerref06_SameNumbers_l4
  refine le_cond (by simp only [EN]) (fun _ => ?_) (fun _ => ?_)
  ·refine le_cond (by simp only [EN]) (fun _ => ?_) (fun _ => le_none)
   refine le_cond (by simp only [EN]) (fun _ => ?_) (fun _ => le_none)
   refine le_cond (by simp only [EN]) (fun _ => ?_) (fun _ => ?_)
   ·exact le_ret (by first | rfl | simp only [EN, brokerref06_SameNumbers_out] <;> rfl)
   ·exact ih x0 x1 (IntKind.wrap .i64 (x5 + 1))
  ·exact le_ret (by first | rfl | simp only [EN, brokerref06_SameNumbers_out] <;> rfl)
theorem brokerref06_SameNumbers_ok (p0 : (List Int)) (p1 : (List Int)) : Le (Option.map brokerref06_SameNumbers_out (brokerref06_SameNumbers p0 p1)) (callW SE 54 [.d (.sl [.int .i64] (List.map (encI .i64) p0)), .d (.sl [.int .i64] (List.map (encI .i64) p1))] [] []) := by
 refine le_bodyC Cr54 rfl ?_
 refine Le.trans ?_ (le_of_eq (T54 _ _ _  p0 p1).symm)
 unfold brokerref06_SameNumbers
 refine le_cond (by simp only [EN]) (fun _ => ?_) (fun _ => ?_)
 ·exact le_ret (by first | rfl | simp only [EN, brokerref06_SameNumbers_out] <;> rfl)
 ·exact brokerref06_SameNumbers_l4_ok fuel p0 p1 0
def C27 (Γ : Fun) (γ50 : Gm (Bool)) (γ51 : Gm (Bool)) (γ52 : Gm (Bool)) (γ53 : Gm (Bool)) (γ54 : Gm (Bool)) : CFun := updC (updC (updC (updC (updC (bindC Γ) 50 brokerref05_Same_out γ50) 51 brokerref06_SameWill_out γ51) 52 brokerref06_SameSubs_out γ52) 53 brokerref01_Same_out γ53) 54 brokerref06_SameNumbers_out γ54
def R27_5 (C : CFun) (Λ2 J : Lam) (a0 : (List D)) (a1 : (List D)) : Res := lab SE C Λ2 J 27 0 [1, 1, 1, 0] (stoOf [(2, .ptr 1000000000 0), (3, .ptr 1000000001 0)] [⟨33, (List.map AV.d a0)⟩, ⟨33, (List.map AV.d a1)⟩] [] [] [])
def R27_3 (C : CFun) (Λ2 J : Lam) (a0 : (List D)) (a1 : (List D)) : Res := lab SE C Λ2 J 27 0 [1, 1, 0, 0] (stoOf [(2, .ptr 1000000000 0), (3, .ptr 1000000001 0)] [⟨33, (List.map AV.d a0)⟩, ⟨33, (List.map AV.d a1)⟩] [] [] [])
theorem T27 (Γ : Fun) (γ50 : Gm (Bool)) (γ51 : Gm (Bool)) (γ52 : Gm (Bool)) (γ53 : Gm (Bool)) (γ54 : Gm (Bool)) (Λ2 J : Lam) (p0 : api_Packet) (p1 : api_Packet) : bodyC SE (C27 Γ γ50 γ51 γ52 γ53 γ54) Λ2 J 27 [api_Packet.av p0, api_Packet.av p1] [] [] =
 cond (p0.Kind != p1.Kind) (
 (some (.ret [.d (.bool false)] [] []))) (
 cond (p0.ID != p1.ID) (
 (some (.ret [.d (.bool false)] [] []))) (
 cond (p0.Dup != p1.Dup) (
 (some (.ret [.d (.bool false)] [] []))) (
 γ50 [api_Message.av p0.Message, api_Message.av p1.Message] [] [] fun r0 =>
 cond (!r0) (
 (some (.ret [.d (.bool false)] [] []))) (
 cond (!(p0.Client == p1.Client)) (
 (some (.ret [.d (.bool false)] [] []))) (
 cond (!(p0.User == p1.User)) (
 (some (.ret [.d (.bool false)] [] []))) (
 R27_3 (C27 Γ γ50 γ51 γ52 γ53 γ54) Λ2 J (api_Packet.enc p0) (api_Packet.enc p1))))))) := by kernel_rfl
theorem T27_5 (Γ : Fun) (γ50 : Gm (Bool)) (γ51 : Gm (Bool)) (γ52 : Gm (Bool)) (γ53 : Gm (Bool)) (γ54 : Gm (Bool)) (Λ2 J : Lam) (b0 : api_Packet) (b1 : api_Packet) : labU SE (C27 Γ γ50 γ51 γ52 γ53 γ54) Λ2 J 27 0 [1, 1, 1, 0] (stoOf [(2, .ptr 1000000000 0), (3, .ptr 1000000001 0)] [⟨33, (List.map AV.d (api_Packet.enc b0))⟩, ⟨33, (List.map AV.d (api_Packet.enc b1))⟩] [] [] []) =
 cond (b0.Present == b1.Present) (
 cond (b0.Code == b1.Code) (
  γ52 [.d (.sl api_Sub.ks (List.map api_Sub.enc b0.Subs)), .d (.sl api_Sub.ks (List.map api_Sub.enc b1.Subs))] [] [] fun r2 =>
  cond r2 (
  γ53 [.d (.sl [.str] (List.map encS b0.Filters)), .d (.sl [.str] (List.map encS b1.Filters))] [] [] fun r3 =>
  cond r3 (
   γ54 [.d (.sl [.int .i64] (List.map (encI .i64) b0.Codes)), .d (.sl [.int .i64] (List.map (encI .i64) b1.Codes))] [] [] fun r4 =>
   (some (.ret [.d (.bool r4)] [] []))) (
  (some (.ret [.d (.bool false)] [] [])))) (
  (some (.ret [.d (.bool false)] [] [])))) (
 (some (.ret [.d (.bool false)] [] [])))) (
 (some (.ret [.d (.bool false)] [] []))) := by kernel_rfl
theorem T27_3 (Γ : Fun) (γ50 : Gm (Bool)) (γ51 : Gm (Bool)) (γ52 : Gm (Bool)) (γ53 : Gm (Bool)) (γ54 : Gm (Bool)) (Λ2 J : Lam) (b0 : api_Packet) (b1 : api_Packet) : labU SE (C27 Γ γ50 γ51 γ52 γ53 γ54) Λ2 J 27 0 [1, 1, 0, 0] (stoOf [(2, .ptr 1000000000 0), (3, .ptr 1000000001 0)] [⟨33, (List.map AV.d (api_Packet.enc b0))⟩, ⟨33, (List.map AV.d (api_Packet.enc b1))⟩] [] [] []) =
 cond (b0.Clean != b1.Clean) (
 (some (.ret [.d (.bool false)] [] []))) (
 cond (b0.Keep != b1.Keep) (
 (some (.ret [.d (.bool false)] [] []))) (
 cond (b0.Expiry != b1.Expiry) (
 (some (.ret [.d (.bool false)] [] []))) (
 cond (b0.Window != b1.Window) (
 (some (.ret [.d (.bool false)] [] []))) (
 γ51 [api_Will.av b0.Will, api_Will.av b1.Will] [] [] fun r1 =>
 cond (!r1) (
 (some (.ret [.d (.bool false)] [] []))) (
 R27_5 (C27 Γ γ50 γ51 γ52 γ53 γ54) Λ2 J (api_Packet.enc b0) (api_Packet.enc b1)))))) := by kernel_rfl
abbrev X27 : CFun := C27 (callG SE good) (callT SE good 50 brokerref05_Same_out) (callT SE good 51 brokerref06_SameWill_out) (callT SE good 52 brokerref06_SameSubs_out) (callT SE good 53 brokerref01_Same_out) (callT SE good 54 brokerref06_SameNumbers_out)
theorem Cr27 : C27 (callG SE good) (callT SE good 50 brokerref05_Same_out) (callT SE good 51 brokerref06_SameWill_out) (callT SE good 52 brokerref06_SameSubs_out) (callT SE good 53 brokerref01_Same_out) (callT SE good 54 brokerref06_SameNumbers_out) = bindC (callG SE good) := by unfold C27; rw [updC_real (fun _ h => h), updC_real (fun _ h => h), updC_real (fun _ h => h), updC_real (fun _ h => h), updC_real (fun _ h => h)]
noncomputable abbrev Q27_5 (a0 : (List D)) (a1 : (List D)) : Res := R27_5 X27 (lam2 SE (callG SE good) (SE.hl 27) (SE.hr 27)) (J0 SE X27) a0 a1
noncomputable abbrev Q27_3 (a0 : (List D)) (a1 : (List D)) : Res := R27_3 X27 (lam2 SE (callG SE good) (SE.hl 27) (SE.hr 27)) (J0 SE X27) a0 a1
theorem brokerref06_Same_j5_ok (b0 : api_Packet) (b1 : api_Packet) : Le (Option.map brokerref06_Same_out (brokerref06_Same_j5 b0 b1)) (Q27_5 (api_Packet.enc b0) (api_Packet.enc b1)) := by
 refine Le.trans ?_ (le_of_eq ((lab_realC Cr27).trans (T27_5 _ _ _ _ _ _ _ _  b0 b1)).symm)
 unfold brokerref06_Same_j5
 refine le_cond rfl (fun _ => ?_) (fun _ => ?_)
 ·refine le_cond rfl (fun _ => ?_) (fun _ => ?_)
  ·refine le_call (good := good) (fun y => ⟨y, rfl⟩) brokerref06_SameSubs_inj (brokerref06_SameSubs_ok b0.Subs b1.Subs) (fun r2 _ => ?_)
   refine le_cond rfl (fun _ => ?_) (fun _ => ?_)
   ·refine le_call (good := good) (fun y => ⟨y, rfl⟩) brokerref01_Same_inj (brokerref01_Same_ok b0.Filters b1.Filters) (fun r3 _ => ?_)
    refine le_cond rfl (fun _ => ?_) (fun _ => ?_)
    ·refine le_call (good := good) (fun y => ⟨y, rfl⟩) brokerref06_SameNumbers_inj (brokerref06_SameNumbers_ok b0.Codes b1.Codes) (fun r4 _ => ?_)
     exact le_ret (by first | rfl | simp only [EN, brokerref06_Same_out] <;> rfl)
    ·exact le_ret (by first | rfl | simp only [EN, brokerref06_Same_out] <;> rfl)
   ·exact le_ret (by first | rfl | simp only [EN, brokerref06_Same_out] <;> rfl)
  ·exact le_ret (by first | rfl | simp only [EN, brokerref06_Same_out] <;> rfl)
 ·exact le_ret (by first | rfl | simp only [EN, brokerref06_Same_out] <;> rfl)
theorem brokerref06_Same_j3_ok (b0 : api_Packet) (b1 : api_Packet) : Le (Option.map brokerref06_Same_out (brokerref06_Same_j3 b0 b1)) (Q27_3 (api_Packet.enc b0) (api_Packet.enc b1)) := by
 refine Le.trans ?_ (le_of_eq ((lab_realC Cr27).trans (T27_3 _ _ _ _ _ _ _ _  b0 b1)).symm)
 unfold brokerref06_Same_j3
 refine le_cond rfl (fun _ => ?_) (fun _ => ?_)
 ·exact le_ret (by first | rfl | simp only [EN, brokerref06_Same_out] <;> rfl)
 ·refine le_cond rfl (fun _ => ?_) (fun _ => ?_)
  ·exact le_ret (by first | rfl | simp only [EN, brokerref06_Same_out] <;> rfl)
  ·refine le_cond rfl (fun _ => ?_) (fun _ => ?_)
   ·exact le_ret (by first | rfl | simp only [EN, brokerref06_Same_out] <;> rfl)
   ·refine le_cond rfl (fun _ => ?_) (fun _ => ?_)
    ·exact le_ret (by first | rfl | simp only [EN, brokerref06_Same_out] <;> rfl)
    ·refine le_call (good := good) (fun y => ⟨y, rfl⟩) brokerref06_SameWill_inj (brokerref06_SameWill_ok b0.Will b1.Will) (fun r1 _ => ?_)
     refine le_cond rfl (fun _ => ?_) (fun _ => ?_)
     ·exact le_ret (by first | rfl | simp only [EN, brokerref06_Same_out] <;> rfl)
     ·exact brokerref06_Same_j5_ok b0 b1
theorem brokerref06_Same_ok (p0 : api_Packet) (p1 : api_Packet) : Le (Option.map brokerref06_Same_out (brokerref06_Same p0 p1)) (callW SE 27 [api_Packet.av p0, api_Packet.av p1] [] []) := by
 refine le_bodyC Cr27 rfl ?_
 refine Le.trans ?_ (le_of_eq (T27 _ _ _ _ _ _ _ _  p0 p1).symm)
 unfold brokerref06_Same
 refine le_cond rfl (fun _ => ?_) (fun _ => ?_)
 ·exact le_ret (by first | rfl | simp only [EN, brokerref06_Same_out] <;> rfl)
 ·refine le_cond rfl (fun _ => ?_) (fun _ => ?_)
  ·exact le_ret (by first | rfl | simp only [EN, brokerref06_Same_out] <;> rfl)
  ·refine le_cond rfl (fun _ => ?_) (fun _ => ?_)
   ·exact le_ret (by first | rfl | simp only [EN, brokerref06_Same_out] <;> rfl)
   ·refine le_call (good := good) (fun y => ⟨y, rfl⟩) brokerref05_Same_inj (brokerref05_Same_ok p0.Message p1.Message) (fun r0 _ => ?_)
    refine le_cond rfl (fun _ => ?_) (fun _ => ?_)
    ·exact le_ret (by first | rfl | simp only [EN, brokerref06_Same_out] <;> rfl)
    ·refine le_cond rfl (fun _ => ?_) (fun _ => ?_)
     ·exact le_ret (by first | rfl | simp only [EN, brokerref06_Same_out] <;> rfl)
     ·refine le_cond rfl (fun _ => ?_) (fun _ => ?_)
      ·exact le_ret (by first | rfl | simp only [EN, brokerref06_Same_out] <;> rfl)
      ·exact brokerref06_Same_j3_ok p0 p1
def C76 (Γ : Fun)  : CFun := bindC Γ
theorem T76 (Γ : Fun)  (Λ2 J : Lam) (p0 : Int) : bodyC SE (C76 Γ) Λ2 J 76 [.d (.int .u8 p0)] [] [] =
 cond (decide (p0 ≥ 97)) (
 (some (.ret [.d (.bool (decide (p0 ≤ 122)))] [] []))) (
 (some (.ret [.d (.bool false)] [] []))) := by kernel_rfl
abbrev X76 : CFun := C76 (callG SE good)
theorem Cr76 : C76 (callG SE good) = bindC (callG SE good) := by unfold C76; rfl
theorem brokerref01_lower_ok (p0 : Int) : Le (Option.map brokerref01_lower_out (brokerref01_lower p0)) (callW SE 76 [.d (.int .u8 p0)] [] []) := by
 refine le_bodyC Cr76 rfl ?_
 refine Le.trans ?_ (le_of_eq (T76 _ _ _  p0).symm)
 unfold brokerref01_lower
 refine le_cond rfl (fun _ => ?_) (fun _ => ?_)
 ·exact le_ret (by first | rfl | simp only [EN, brokerref01_lower_out] <;> rfl)
 ·exact le_ret (by first | rfl | simp only [EN, brokerref01_lower_out] <;> rfl)
def C77 (Γ : Fun)  : CFun := bindC Γ
theorem T77 (Γ : Fun)  (Λ2 J : Lam) (p0 : Int) : bodyC SE (C77 Γ) Λ2 J 77 [.d (.int .u8 p0)] [] [] =
 cond (decide (p0 ≥ 48)) (
 (some (.ret [.d (.bool (decide (p0 ≤ 57)))] [] []))) (
 (some (.ret [.d (.bool false)] [] []))) := by kernel_rfl
abbrev X77 : CFun := C77 (callG SE good)
theorem Cr77 : C77 (callG SE good) = bindC (callG SE good) := by unfold C77; rfl
theorem brokerref01_digit_ok (p0 : Int) : Le (Option.map brokerref01_digit_out (brokerref01_digit p0)) (callW SE 77 [.d (.int .u8 p0)] [] []) := by
 refine le_bodyC Cr77 rfl ?_
 refine Le.trans ?_ (le_of_eq (T77 _ _ _  p0).symm)
 unfold brokerref01_digit
 refine le_cond rfl (fun _ => ?_) (fun _ => ?_)
 ·exact le_ret (by first | rfl | simp only [EN, brokerref01_digit_out] <;> rfl)
 ·exact le_ret (by first | rfl | simp only [EN, brokerref01_digit_out] <;> rfl)
def C57 (Γ : Fun) (γ76 : Gm (Bool)) (γ77 : Gm (Bool)) : CFun := updC (updC (bindC Γ) 76 brokerref01_lower_out γ76) 77 brokerref01_digit_out γ77
def R57_4 (C : CFun) (Λ2 J : Lam) (a0 : Str) (a1 : Int) : Res := lab SE C Λ2 J 57 0 [1, 1, 0, 1, 0] (stoOf [(0, .d (.str a0)), (3, .d (.int .i64 a1))] [] [] [] [])
def R57_3 (C : CFun) (Λ2 J : Lam) (a0 : Str) : Res := lab SE C Λ2 J 57 0 [1, 1, 0, 0] (stoOf [(0, .d (.str a0))] [] [] [] [])
theorem T57 (Γ : Fun) (γ76 : Gm (Bool)) (γ77 : Gm (Bool)) (Λ2 J : Lam) (p0 : Str) : bodyC SE (C57 Γ γ76 γ77) Λ2 J 57 [.d (.str p0)] [] [] =
 cond (decide ((List.length p0 : Int) < 1)) (
 (some (.ret [.d (.bool false)] [] []))) (
 cond (decide ((List.length p0 : Int) > 16)) (
 (some (.ret [.d (.bool false)] [] []))) (
 cond (decide (0 ≤ 0) && decide (0 < (List.length p0 : Int))) (
 γ76 [.d (.int .u8 (UInt8.toNat (List.getD p0 (Int.toNat 0) 0) : Int))] [] [] fun r0 =>
 cond (!r0) (
  (some (.ret [.d (.bool false)] [] []))) (
 R57_3 (C57 Γ γ76 γ77) Λ2 J p0)) none)) := by kernel_rfl
theorem T57_4 (Γ : Fun) (γ76 : Gm (Bool)) (γ77 : Gm (Bool)) (Λ2 J : Lam) (x0 : Str) (x3 : Int) : labU SE (C57 Γ γ76 γ77) Λ2 J 57 0 [1, 1, 0, 1, 0] (stoOf [(0, .d (.str x0)), (3, .d (.int .i64 x3))] [] [] [] []) =
 cond (decide (x3 < (List.length x0 : Int))) (
 cond (decide (0 ≤ x3) && decide (x3 < (List.length x0 : Int))) (
  γ76 [.d (.int .u8 (UInt8.toNat (List.getD x0 (Int.toNat x3) 0) : Int))] [] [] fun r1 =>
  cond (!r1) (
  cond (decide (0 ≤ x3) && decide (x3 < (List.length x0 : Int))) (
   γ77 [.d (.int .u8 (UInt8.toNat (List.getD x0 (Int.toNat x3) 0) : Int))] [] [] fun r2 =>
   cond (!r2) (
   cond (decide (0 ≤ x3) && decide (x3 < (List.length x0 : Int))) (
    cond ((UInt8.toNat (List.getD x0 (Int.toNat x3) 0) : Int) != 45) (
    (some (.ret [.d (.bool false)] [] []))) (
    R57_4 (C57 Γ γ76 γ77) Λ2 J x0 (IntKind.wrap .i64 (x3 + 1)))) none) (
   R57_4 (C57 Γ γ76 γ77) Λ2 J x0 (IntKind.wrap .i64 (x3 + 1)))) none) (
  R57_4 (C57 Γ γ76 γ77) Λ2 J x0 (IntKind.wrap .i64 (x3 + 1)))) none) (
 (some (.ret [.d (.bool true)] [] []))) := by kernel_rfl
theorem T57_3 (Γ : Fun) (γ76 : Gm (Bool)) (γ77 : Gm (Bool)) (Λ2 J : Lam) (x0 : Str) : labU SE (C57 Γ γ76 γ77) Λ2 J 57 0 [1, 1, 0, 0] (stoOf [(0, .d (.str x0))] [] [] [] []) =
 R57_4 (C57 Γ γ76 γ77) Λ2 J x0 0 := by kernel_rfl
abbrev X57 : CFun := C57 (callG SE good) (callT SE good 76 brokerref01_lower_out) (callT SE good 77 brokerref01_digit_out)
theorem Cr57 : C57 (callG SE good) (callT SE good 76 brokerref01_lower_out) (callT SE good 77 brokerref01_digit_out) = bindC (callG SE good) := by unfold C57; rw [updC_real (fun _ h => h), updC_real (fun _ h => h)]
noncomputable abbrev Q57_4 (a0 : Str) (a1 : Int) : Res := R57_4 X57 (lam2 SE (callG SE good) (SE.hl 57) (SE.hr 57)) (J0 SE X57) a0 a1
noncomputable abbrev Q57_3 (a0 : Str) : Res := R57_3 X57 (lam2 SE (callG SE good) (SE.hl 57) (SE.hr 57)) (J0 SE X57) a0
theorem brokerref01_Name_l4_ok : ∀ (fu : Nat) (x0 : Str) (x3 : Int), Le (Option.map brokerref01_Name_out (brokerref01_Name_l4 fu x0 x3)) (Q57_4 x0 x3) := by
 intro fu
 induction fu with
 | zero => intros; exact le_none
 | succ fu ih =>
  intro x0 x3
  refine Le.trans ?_ (le_of_eq ((lab_realC Cr57).trans (T57_4 _ _ _ _ _  x0 x3)).symm)
  unfold brokerref01_Name_l4
  refine le_cond rfl (fun _ => ?_) (fun _ => ?_)
  ·refine le_cond rfl (fun _ => ?_) (fun _ => le_none)
   refine le_call (good := good) (fun y => ⟨y, rfl⟩) brokerref01_lower_inj (brokerref01_lower_ok (UInt8.toNat (List.getD x0 (Int.toNat x3) 0) : Int)) (fun r1 _ => ?_)
   refine le_cond rfl (fun _ => ?_) (fun _ => ?_)
   ·refine le_cond rfl (fun _ => ?_) (fun _ => le_none)
    refine le_call (good := good) (fun y => ⟨y, rfl⟩) brokerref01_digit_inj (brokerref01_digit_ok (UInt8.toNat (List.getD x0 (Int.toNat x3) 0) : Int)) (fun r2 _ => ?_)
    refine le_cond rfl (fun _ => ?_) (fun _ => ?_)
    ·refine le_cond rfl (fun _ => ?_) (fun _ => le_none)
     refine le_cond rfl (fun _ => ?_) (fun _ => ?_)
     ·exact le_ret (by first | rfl | simp only [EN, brokerref01_Name_out] <;> rfl)
     ·exact ih x0 (IntKind.wrap .i64 (x3 + 1))
    ·exact ih x0 (IntKind.wrap .i64 (x3 + 1))
   ·exact ih x0 (IntKind.wrap .i64 (x3 + 1))
  ·exact le_ret (by first | rfl | simp only [EN, brokerref01_Name_out] <;> rfl)
theorem brokerref01_Name_j3_ok (x0 : Str) : Le (Option.map brokerref01_Name_out (brokerref01_Name_j3 x0)) (Q57_3 x0) := by
 refine Le.trans ?_ (le_of_eq ((lab_realC Cr57).trans (T57_3 _ _ _ _ _  x0)).symm)
 unfold brokerref01_Name_j3
 exact brokerref01_Name_l4_ok fuel x0 0
theorem brokerref01_Name_ok (p0 : Str) : Le (Option.map brokerref01_Name_out (brokerref01_Name p0)) (callW SE 57 [.d (.str p0)] [] []) := by
 refine le_bodyC Cr57 rfl ?_
 refine Le.trans ?_ (le_of_eq (T57 _ _ _ _ _  p0).symm)
 unfold brokerref01_Name
 refine le_cond rfl (fun _ => ?_) (fun _ => ?_)
 ·exact le_ret (by first | rfl | simp only [EN, brokerref01_Name_out] <;> rfl)
 ·refine le_cond rfl (fun _ => ?_) (fun _ => ?_)
  ·exact le_ret (by first | rfl | simp only [EN, brokerref01_Name_out] <;> rfl)
  ·refine le_cond rfl (fun _ => ?_) (fun _ => le_none)
   refine le_call (good := good) (fun y => ⟨y, rfl⟩) brokerref01_lower_inj (brokerref01_lower_ok (UInt8.toNat (List.getD p0 (Int.toNat 0) 0) : Int)) (fun r0 _ => ?_)
   refine le_cond rfl (fun _ => ?_) (fun _ => ?_)
   ·exact le_ret (by first | rfl | simp only [EN, brokerref01_Name_out] <;> rfl)
   ·exact brokerref01_Name_j3_ok p0
def C92 (Γ : Fun)  : CFun := bindC Γ
def R92_2 (C : CFun) (Λ2 J : Lam) (a0 : Str) (a1 : Int) (a2 : Int) : Res := lab SE C Λ2 J 92 0 [1, 0, 1, 0] (stoOf [(0, .d (.str a0)), (1, .d (.int .u8 a1)), (5, .d (.int .i64 a2))] [] [] [] [])
theorem T92 (Γ : Fun)  (Λ2 J : Lam) (p0 : Str) (p1 : Int) : bodyC SE (C92 Γ) Λ2 J 92 [.d (.str p0), .d (.int .u8 p1)] [] [] =
 R92_2 (C92 Γ) Λ2 J p0 p1 0 := by kernel_rfl
theorem T92_2 (Γ : Fun)  (Λ2 J : Lam) (x0 : Str) (x1 : Int) (x5 : Int) : labU SE (C92 Γ) Λ2 J 92 0 [1, 0, 1, 0] (stoOf [(0, .d (.str x0)), (1, .d (.int .u8 x1)), (5, .d (.int .i64 x5))] [] [] [] []) =
 cond (decide (x5 < (List.length x0 : Int))) (
 cond (decide (0 ≤ x5) && decide (x5 < (List.length x0 : Int))) (
  cond ((UInt8.toNat (List.getD x0 (Int.toNat x5) 0) : Int) == x1) (
  (some (.ret [.d (.bool true)] [] []))) (
  R92_2 (C92 Γ) Λ2 J x0 x1 (IntKind.wrap .i64 (x5 + 1)))) none) (
 (some (.ret [.d (.bool false)] [] []))) := by kernel_rfl
abbrev X92 : CFun := C92 (callG SE good)
theorem Cr92 : C92 (callG SE good) = bindC (callG SE good) := by unfold C92; rfl
noncomputable abbrev Q92_2 (a0 : Str) (a1 : Int) (a2 : Int) : Res := R92_2 X92 (lam2 SE (callG SE good) (SE.hl 92) (SE.hr 92)) (J0 SE X92) a0 a1 a2
theorem brokerref01_Has_l2_ok : ∀ (fu : Nat) (x0 : Str) (x1 : Int) (x5 : Int), Le (Option.map brokerref01_Has_out (brokerref01_Has_l2 fu x0 x1 x5)) (Q92_2 x0 x1 x5) := by
 intro fu
 induction fu with
 | zero => intros; exact le_none
 | succ fu ih =>
  intro x0 x1 x5
  refine Le.trans ?_ (le_of_eq ((lab_realC Cr92).trans (T92_2 _ _ _  x0 x1 x5)).symm)
  unfold brokerref01_Has_l2
  refine le_cond rfl (fun _ => ?_) (fun _ => ?_)
  ·refine le_cond rfl (fun _ => ?_) (fun _ => le_none)
   refine le_cond rfl (fun _ => ?_) (fun _ => ?_)
   ·exact le_ret (by first | rfl | simp only [EN, brokerref01_Has_out] <;> rfl)
   ·exact ih x0 x1 (IntKind.wrap .i64 (x5 + 1))
  ·exact le_ret (by first | rfl | simp only [EN, brokerref01_Has_out] <;> rfl)
theorem brokerref01_Has_ok (p0 : Str) (p1 : Int) : Le (Option.map brokerref01_Has_out (brokerref01_Has p0 p1)) (callW SE 92 [.d (.str p0), .d (.int .u8 p1)] [] []) := by
 refine le_bodyC Cr92 rfl ?_
 refine Le.trans ?_ (le_of_eq (T92 _ _ _  p0 p1).symm)
 unfold brokerref01_Has
 exact brokerref01_Has_l2_ok fuel p0 p1 0
def C94 (Γ : Fun)  : CFun := bindC Γ
def R94_4 (C : CFun) (Λ2 J : Lam) (a0 : Str) (a1 : Int) (a2 : Int) (a3 : (List (List D))) : Res := lab SE C Λ2 J 94 0 [1, 1, 1, 0, 1, 0] (stoOf [(0, .d (.str a0)), (3, .row 3003), (4, .d (.int .i64 a1)), (5, .d (.int .i64 a2))] [] [] [] [(3003, ⟨[.str], 9, 16, a3⟩)])
theorem T94 (Γ : Fun)  (Λ2 J : Lam) (p0 : Str) : bodyC SE (C94 Γ) Λ2 J 94 [.d (.str p0)] [] [] =
 R94_4 (C94 Γ) Λ2 J p0 0 0 (List.map encS []) := by kernel_rfl
theorem T94_4 (Γ : Fun)  (Λ2 J : Lam) (x0 : Str) (x4 : Int) (x5 : Int) (w3003 : (List Str)) : labU SE (C94 Γ) Λ2 J 94 0 [1, 1, 1, 0, 1, 0] (stoOf [(0, .d (.str x0)), (3, .row 3003), (4, .d (.int .i64 x4)), (5, .d (.int .i64 x5))] [] [] [] [(3003, ⟨[.str], 9, 16, (List.map encS w3003)⟩)]) =
 cond (decide (x5 < (List.length x0 : Int))) (
 cond (decide (0 ≤ x5) && decide (x5 < (List.length x0 : Int))) (
  cond ((UInt8.toNat (List.getD x0 (Int.toNat x5) 0) : Int) == 47) (
  cond (decide (0 ≤ x5) && decide (x5 ≤ ((List.length x0) : Int))) (
   cond (decide (0 ≤ x4) && decide (x4 ≤ x5)) (
   cond (decide ((List.length (List.map encS w3003) + List.length (List.map encS [(cutL x0 (some x4) (some x5))])) * 16 ≤ 140737488355328)) (
    R94_4 (C94 Γ) Λ2 J x0 (IntKind.wrap .i64 (x5 + 1)) (IntKind.wrap .i64 (x5 + 1)) (((List.map encS w3003) ++ (List.map encS [(cutL x0 (some x4) (some x5))])))) none) none) none) (
  R94_4 (C94 Γ) Λ2 J x0 x4 (IntKind.wrap .i64 (x5 + 1)) (List.map encS w3003))) none) (
 cond (decide (0 ≤ x4) && decide (x4 ≤ ((List.length x0) : Int))) (
 cond (decide ((List.length (List.map encS w3003) + List.length (List.map encS [(cutL x0 (some x4) none)])) * 16 ≤ 140737488355328)) (
  (some (.ret [.row 0] [] [⟨[.str], 9, 16, ((List.map encS w3003) ++ (List.map encS [(cutL x0 (some x4) none)]))⟩]))) none) none) := by kernel_rfl
abbrev X94 : CFun := C94 (callG SE good)
theorem Cr94 : C94 (callG SE good) = bindC (callG SE good) := by unfold C94; rfl
noncomputable abbrev Q94_4 (a0 : Str) (a1 : Int) (a2 : Int) (a3 : (List (List D))) : Res := R94_4 X94 (lam2 SE (callG SE good) (SE.hl 94) (SE.hr 94)) (J0 SE X94) a0 a1 a2 a3
theorem brokerref01_Levels_l4_ok : ∀ (fu : Nat) (x0 : Str) (x4 : Int) (x5 : Int) (w3003 : (List Str)), Le (Option.map brokerref01_Levels_out (brokerref01_Levels_l4 fu x0 x4 x5 w3003)) (Q94_4 x0 x4 x5 (List.map encS w3003)) := by
 intro fu
 induction fu with
 | zero => intros; exact le_none
 | succ fu ih =>
  intro x0 x4 x5 w3003
  refine Le.trans ?_ (le_of_eq ((lab_realC Cr94).trans (T94_4 _ _ _  x0 x4 x5 w3003)).symm)
  unfold brokerref01_Levels_l4
  refine le_cond rfl (fun _ => ?_) (fun _ => ?_)
  ·refine le_cond rfl (fun _ => ?_) (fun _ => le_none)
   refine le_cond rfl (fun _ => ?_) (fun _ => ?_)
   ·refine le_cond rfl (fun _ => ?_) (fun _ => le_none)
    refine le_cond rfl (fun _ => ?_) (fun _ => le_none)
    refine le_cond (by simp only [EN]) (fun _ => ?_) (fun _ => le_none)
    first | (simp only [EN]; exact ih x0 (IntKind.wrap .i64 (x5 + 1)) (IntKind.wrap .i64 (x5 + 1)) ((w3003 ++ [(cutL x0 (some x4) (some x5))]))) | exact ih x0 (IntKind.wrap .i64 (x5 + 1)) (IntKind.wrap .i64 (x5 + 1)) ((w3003 ++ [(cutL x0 (some x4) (some x5))]))
   ·exact ih x0 x4 (IntKind.wrap .i64 (x5 + 1)) w3003
  ·refine le_cond rfl (fun _ => ?_) (fun _ => le_none)
   refine le_cond (by simp only [EN]) (fun _ => ?_) (fun _ => le_none)
   exact le_ret (by first | rfl | simp only [EN, brokerref01_Levels_out] <;> rfl)
theorem brokerref01_Levels_ok (p0 : Str) : Le (Option.map brokerref01_Levels_out (brokerref01_Levels p0)) (callW SE 94 [.d (.str p0)] [] []) := by
 refine le_bodyC Cr94 rfl ?_
 refine Le.trans ?_ (le_of_eq (T94 _ _ _  p0).symm)
 unfold brokerref01_Levels
 first | (simp only [EN]; exact brokerref01_Levels_l4_ok fuel p0 0 0 ([] : List Str)) | exact brokerref01_Levels_l4_ok fuel p0 0 0 ([] : List Str)
def C91 (Γ : Fun) (γ92 : Gm (Bool)) (γ94 : Gm ((List Str))) : CFun := updC (updC (bindC Γ) 92 brokerref01_Has_out γ92) 94 brokerref01_Levels_out γ94
theorem T91 (Γ : Fun) (γ92 : Gm (Bool)) (γ94 : Gm ((List Str))) (Λ2 J : Lam) (p0 : Str) : bodyC SE (C91 Γ γ92 γ94) Λ2 J 91 [.d (.str p0)] [] [] =
 cond (decide ((List.length p0 : Int) ≥ 1)) (
 cond (decide ((List.length p0 : Int) ≤ 64)) (
  γ92 [.d (.str p0), .d (.int .u8 0)] [] [] fun r0 =>
  cond (!r0) (
  γ94 [.d (.str p0)] [] [] fun r1 =>
  (some (.ret [.d (.bool (decide ((List.length (List.map encS r1) : Int) ≤ 8)))] [] []))) (
  (some (.ret [.d (.bool false)] [] [])))) (
 (some (.ret [.d (.bool false)] [] [])))) (
 (some (.ret [.d (.bool false)] [] []))) := by kernel_rfl
abbrev X91 : CFun := C91 (callG SE good) (callT SE good 92 brokerref01_Has_out) (callT SE good 94 brokerref01_Levels_out)
theorem Cr91 : C91 (callG SE good) (callT SE good 92 brokerref01_Has_out) (callT SE good 94 brokerref01_Levels_out) = bindC (callG SE good) := by unfold C91; rw [updC_real (fun _ h => h), updC_real (fun _ h => h)]
theorem brokerref01_sized_ok (p0 : Str) : Le (Option.map brokerref01_sized_out (brokerref01_sized p0)) (callW SE 91 [.d (.str p0)] [] []) := by
 refine le_bodyC Cr91 rfl ?_
 refine Le.trans ?_ (le_of_eq (T91 _ _ _ _ _  p0).symm)
 unfold brokerref01_sized
 refine le_cond rfl (fun _ => ?_) (fun _ => ?_)
 ·refine le_cond rfl (fun _ => ?_) (fun _ => ?_)
  ·refine le_call (good := good) (fun y => ⟨y, rfl⟩) brokerref01_Has_inj (brokerref01_Has_ok p0 0) (fun r0 _ => ?_)
   refine le_cond rfl (fun _ => ?_) (fun _ => ?_)
   ·refine le_call (good := good) (fun y => ⟨y, rfl⟩) brokerref01_Levels_inj (brokerref01_Levels_ok p0) (fun r1 _ => ?_)
    exact le_ret (by first | rfl | simp only [EN, brokerref01_sized_out] <;> rfl)
   ·exact le_ret (by first | rfl | simp only [EN, brokerref01_sized_out] <;> rfl)
  ·exact le_ret (by first | rfl | simp only [EN, brokerref01_sized_out] <;> rfl)
 ·exact le_ret (by first | rfl | simp only [EN, brokerref01_sized_out] <;> rfl)
def C78 (Γ : Fun) (γ91 : Gm (Bool)) (γ92 : Gm (Bool)) : CFun := updC (updC (bindC Γ) 91 brokerref01_sized_out γ91) 92 brokerref01_Has_out γ92
theorem T78 (Γ : Fun) (γ91 : Gm (Bool)) (γ92 : Gm (Bool)) (Λ2 J : Lam) (p0 : Str) : bodyC SE (C78 Γ γ91 γ92) Λ2 J 78 [.d (.str p0)] [] [] =
 γ91 [.d (.str p0)] [] [] fun r0 =>
 cond r0 (
 γ92 [.d (.str p0), .d (.int .u8 43)] [] [] fun r1 =>
 cond (!r1) (
  γ92 [.d (.str p0), .d (.int .u8 35)] [] [] fun r2 =>
  (some (.ret [.d (.bool (!r2))] [] []))) (
 (some (.ret [.d (.bool false)] [] [])))) (
 (some (.ret [.d (.bool false)] [] []))) := by kernel_rfl
abbrev X78 : CFun := C78 (callG SE good) (callT SE good 91 brokerref01_sized_out) (callT SE good 92 brokerref01_Has_out)
theorem Cr78 : C78 (callG SE good) (callT SE good 91 brokerref01_sized_out) (callT SE good 92 brokerref01_Has_out) = bindC (callG SE good) := by unfold C78; rw [updC_real (fun _ h => h), updC_real (fun _ h => h)]
theorem brokerref01_Valid_ok (p0 : Str) : Le (Option.map brokerref01_Valid_out (brokerref01_Valid p0)) (callW SE 78 [.d (.str p0)] [] []) := by
 refine le_bodyC Cr78 rfl ?_
 refine Le.trans ?_ (le_of_eq (T78 _ _ _ _ _  p0).symm)
 unfold brokerref01_Valid
 refine le_call (good := good) (fun y => ⟨y, rfl⟩) brokerref01_sized_inj (brokerref01_sized_ok p0) (fun r0 _ => ?_)
 refine le_cond rfl (fun _ => ?_) (fun _ => ?_)
 ·refine le_call (good := good) (fun y => ⟨y, rfl⟩) brokerref01_Has_inj (brokerref01_Has_ok p0 43) (fun r1 _ => ?_)
  refine le_cond rfl (fun _ => ?_) (fun _ => ?_)
  ·refine le_call (good := good) (fun y => ⟨y, rfl⟩) brokerref01_Has_inj (brokerref01_Has_ok p0 35) (fun r2 _ => ?_)
   exact le_ret (by first | rfl | simp only [EN, brokerref01_Valid_out] <;> rfl)
  ·exact le_ret (by first | rfl | simp only [EN, brokerref01_Valid_out] <;> rfl)
 ·exact le_ret (by first | rfl | simp only [EN, brokerref01_Valid_out] <;> rfl)
def C93 (Γ : Fun)  : CFun := bindC Γ
def R93_4 (C : CFun) (Λ2 J : Lam) (a0 : Str) (a1 : Int) : Res := lab SE C Λ2 J 93 0 [1, 1, 0, 1, 0] (stoOf [(0, .d (.str a0)), (3, .d (.int .i64 a1))] [] [] [] [])
def R93_3 (C : CFun) (Λ2 J : Lam) (a0 : Str) : Res := lab SE C Λ2 J 93 0 [1, 1, 0, 0] (stoOf [(0, .d (.str a0))] [] [] [] [])
theorem T93 (Γ : Fun)  (Λ2 J : Lam) (p0 : Str) : bodyC SE (C93 Γ) Λ2 J 93 [.d (.str p0)] [] [] =
 cond (decide ((List.length p0 : Int) < 1)) (
 (some (.ret [.d (.bool false)] [] []))) (
 cond (decide ((List.length p0 : Int) > 16)) (
 (some (.ret [.d (.bool false)] [] []))) (
 R93_3 (C93 Γ) Λ2 J p0)) := by kernel_rfl
theorem T93_4 (Γ : Fun)  (Λ2 J : Lam) (x0 : Str) (x3 : Int) : labU SE (C93 Γ) Λ2 J 93 0 [1, 1, 0, 1, 0] (stoOf [(0, .d (.str x0)), (3, .d (.int .i64 x3))] [] [] [] []) =
 cond (decide (x3 < (List.length x0 : Int))) (
 cond (decide (0 ≤ x3) && decide (x3 < (List.length x0 : Int))) (
  cond (decide ((UInt8.toNat (List.getD x0 (Int.toNat x3) 0) : Int) ≥ 97)) (
  cond (!(decide ((UInt8.toNat (List.getD x0 (Int.toNat x3) 0) : Int) ≤ 122))) (
   cond (decide ((UInt8.toNat (List.getD x0 (Int.toNat x3) 0) : Int) ≥ 48)) (
   cond (!(decide ((UInt8.toNat (List.getD x0 (Int.toNat x3) 0) : Int) ≤ 57))) (
    cond ((UInt8.toNat (List.getD x0 (Int.toNat x3) 0) : Int) != 45) (
    (some (.ret [.d (.bool false)] [] []))) (
    R93_4 (C93 Γ) Λ2 J x0 (IntKind.wrap .i64 (x3 + 1)))) (
   R93_4 (C93 Γ) Λ2 J x0 (IntKind.wrap .i64 (x3 + 1)))) (
   cond ((UInt8.toNat (List.getD x0 (Int.toNat x3) 0) : Int) != 45) (
   (some (.ret [.d (.bool false)] [] []))) (
   R93_4 (C93 Γ) Λ2 J x0 (IntKind.wrap .i64 (x3 + 1))))) (
  R93_4 (C93 Γ) Λ2 J x0 (IntKind.wrap .i64 (x3 + 1)))) (
  cond (decide ((UInt8.toNat (List.getD x0 (Int.toNat x3) 0) : Int) ≥ 48)) (
  cond (!(decide ((UInt8.toNat (List.getD x0 (Int.toNat x3) 0) : Int) ≤ 57))) (
   cond ((UInt8.toNat (List.getD x0 (Int.toNat x3) 0) : Int) != 45) (
   (some (.ret [.d (.bool false)] [] []))) (
   R93_4 (C93 Γ) Λ2 J x0 (IntKind.wrap .i64 (x3 + 1)))) (
  R93_4 (C93 Γ) Λ2 J x0 (IntKind.wrap .i64 (x3 + 1)))) (
  cond ((UInt8.toNat (List.getD x0 (Int.toNat x3) 0) : Int) != 45) (
  (some (.ret [.d (.bool false)] [] []))) (
  R93_4 (C93 Γ) Λ2 J x0 (IntKind.wrap .i64 (x3 + 1)))))) none) (
 (some (.ret [.d (.bool true)] [] []))) := by kernel_rfl
theorem T93_3 (Γ : Fun)  (Λ2 J : Lam) (x0 : Str) : labU SE (C93 Γ) Λ2 J 93 0 [1, 1, 0, 0] (stoOf [(0, .d (.str x0))] [] [] [] []) =
 R93_4 (C93 Γ) Λ2 J x0 0 := by kernel_rfl
abbrev X93 : CFun := C93 (callG SE good)
theorem Cr93 : C93 (callG SE good) = bindC (callG SE good) := by unfold C93; rfl
noncomputable abbrev Q93_4 (a0 : Str) (a1 : Int) : Res := R93_4 X93 (lam2 SE (callG SE good) (SE.hl 93) (SE.hr 93)) (J0 SE X93) a0 a1
noncomputable abbrev Q93_3 (a0 : Str) : Res := R93_3 X93 (lam2 SE (callG SE good) (SE.hl 93) (SE.hr 93)) (J0 SE X93) a0
theorem brokerref05_Key_l4_ok : ∀ (fu : Nat) (x0 : Str) (x3 : Int), Le (Option.map brokerref05_Key_out (brokerref05_Key_l4 fu x0 x3)) (Q93_4 x0 x3) := by
 intro fu
 induction fu with
 | zero => intros; exact le_none
 | succ fu ih =>
  intro x0 x3
  refine Le.trans ?_ (le_of_eq ((lab_realC Cr93).trans (T93_4 _ _ _  x0 x3)).symm)
  unfold brokerref05_Key_l4
  refine le_cond rfl (fun _ => ?_) (fun _ => ?_)
  ·refine le_cond rfl (fun _ => ?_) (fun _ => le_none)
   refine le_cond rfl (fun _ => ?_) (fun _ => ?_)
   ·refine le_cond rfl (fun _ => ?_) (fun _ => ?_)
    ·refine le_cond rfl (fun _ => ?_) (fun _ => ?_)
     ·refine le_cond rfl (fun _ => ?_) (fun _ => ?_)
      ·refine le_cond rfl (fun _ => ?_) (fun _ => ?_)
       ·exact le_ret (by first | rfl | simp only [EN, brokerref05_Key_out] <;> rfl)
       ·exact ih x0 (IntKind.wrap .i64 (x3 + 1))
      ·exact ih x0 (IntKind.wrap .i64 (x3 + 1))
     ·refine le_cond rfl (fun _ => ?_) (fun _ => ?_)
      ·exact le_ret (by first | rfl | simp only [EN, brokerref05_Key_out] <;> rfl)
      ·exact ih x0 (IntKind.wrap .i64 (x3 + 1))
    ·exact ih x0 (IntKind.wrap .i64 (x3 + 1))
   ·refine le_cond rfl (fun _ => ?_) (fun _ => ?_)
    ·refine le_cond rfl (fun _ => ?_) (fun _ => ?_)
     ·refine le_cond rfl (fun _ => ?_) (fun _ => ?_)
      ·exact le_ret (by first | rfl | simp only [EN, brokerref05_Key_out] <;> rfl)
      ·exact ih x0 (IntKind.wrap .i64 (x3 + 1))
     ·exact ih x0 (IntKind.wrap .i64 (x3 + 1))
    ·refine le_cond rfl (fun _ => ?_) (fun _ => ?_)
     ·exact le_ret (by first | rfl | simp only [EN, brokerref05_Key_out] <;> rfl)
     ·exact ih x0 (IntKind.wrap .i64 (x3 + 1))
  ·exact le_ret (by first | rfl | simp only [EN, brokerref05_Key_out] <;> rfl)
theorem brokerref05_Key_j3_ok (x0 : Str) : Le (Option.map brokerref05_Key_out (brokerref05_Key_j3 x0)) (Q93_3 x0) := by
 refine Le.trans ?_ (le_of_eq ((lab_realC Cr93).trans (T93_3 _ _ _  x0)).symm)
 unfold brokerref05_Key_j3
 exact brokerref05_Key_l4_ok fuel x0 0
theorem brokerref05_Key_ok (p0 : Str) : Le (Option.map brokerref05_Key_out (brokerref05_Key p0)) (callW SE 93 [.d (.str p0)] [] []) := by
 refine le_bodyC Cr93 rfl ?_
 refine Le.trans ?_ (le_of_eq (T93 _ _ _  p0).symm)
 unfold brokerref05_Key
 refine le_cond rfl (fun _ => ?_) (fun _ => ?_)
 ·exact le_ret (by first | rfl | simp only [EN, brokerref05_Key_out] <;> rfl)
 ·refine le_cond rfl (fun _ => ?_) (fun _ => ?_)
  ·exact le_ret (by first | rfl | simp only [EN, brokerref05_Key_out] <;> rfl)
  ·exact brokerref05_Key_j3_ok p0
def C79 (Γ : Fun) (γ93 : Gm (Bool)) : CFun := updC (bindC Γ) 93 brokerref05_Key_out γ93
def R79_4 (C : CFun) (Λ2 J : Lam) (a0 : (List (List D))) (a1 : Int) : Res := lab SE C Λ2 J 79 0 [1, 1, 0, 1, 0] (stoOf [(0, .d (.sl api_Prop.ks a0)), (3, .d (.int .i64 a1))] [] [] [] [])
theorem T79 (Γ : Fun) (γ93 : Gm (Bool)) (Λ2 J : Lam) (p0 : (List api_Prop)) : bodyC SE (C79 Γ γ93) Λ2 J 79 [.d (.sl api_Prop.ks (List.map api_Prop.enc p0))] [] [] =
 cond (decide ((List.length (List.map api_Prop.enc p0) : Int) > 8)) (
 (some (.ret [.d (.int .i64 5)] [] []))) (
 R79_4 (C79 Γ γ93) Λ2 J (List.map api_Prop.enc p0) 0) := by kernel_rfl
theorem T79_4 (Γ : Fun) (γ93 : Gm (Bool)) (Λ2 J : Lam) (x0 : (List api_Prop)) (x3 : Int) : labU SE (C79 Γ γ93) Λ2 J 79 0 [1, 1, 0, 1, 0] (stoOf [(0, .d (.sl api_Prop.ks (List.map api_Prop.enc x0))), (3, .d (.int .i64 x3))] [] [] [] []) =
 cond (decide (x3 < (List.length (List.map api_Prop.enc x0) : Int))) (
 cond (decide (0 ≤ x3) && decide (x3 < (List.length (List.map api_Prop.enc x0) : Int))) (
  γ93 [.d (.str (dStr (cellAt (elemAt (List.map api_Prop.enc x0) (Int.toNat x3)) 0)))] [] [] fun r0 =>
  cond (!r0) (
  (some (.ret [.d (.int .i64 16)] [] []))) (
  cond (decide (0 ≤ x3) && decide (x3 < (List.length (List.map api_Prop.enc x0) : Int))) (
  cond (decide ((List.length (dStr (cellAt (elemAt (List.map api_Prop.enc x0) (Int.toNat x3)) 1)) : Int) > 160)) (
   (some (.ret [.d (.int .i64 5)] [] []))) (
  cond (decide (x3 > 0)) (
   cond (decide (0 ≤ x3) && decide (x3 < (List.length (List.map api_Prop.enc x0) : Int))) (
   cond (decide (0 ≤ (IntKind.wrap .i64 (x3 - 1))) && decide ((IntKind.wrap .i64 (x3 - 1)) < (List.length (List.map api_Prop.enc x0) : Int))) (
    cond (Op.bytesLess (dStr (cellAt (elemAt (List.map api_Prop.enc x0) (Int.toNat x3)) 0)) (dStr (cellAt (elemAt (List.map api_Prop.enc x0) (Int.toNat (IntKind.wrap .i64 (x3 - 1)))) 0)) || (dStr (cellAt (elemAt (List.map api_Prop.enc x0) (Int.toNat x3)) 0)) == (dStr (cellAt (elemAt (List.map api_Prop.enc x0) (Int.toNat (IntKind.wrap .i64 (x3 - 1)))) 0))) (
    (some (.ret [.d (.int .i64 16)] [] []))) (
    R79_4 (C79 Γ γ93) Λ2 J (List.map api_Prop.enc x0) (IntKind.wrap .i64 (x3 + 1)))) none) none) (
  R79_4 (C79 Γ γ93) Λ2 J (List.map api_Prop.enc x0) (IntKind.wrap .i64 (x3 + 1))))) none)) none) (
 (some (.ret [.d (.int .i64 0)] [] []))) := by kernel_rfl
abbrev X79 : CFun := C79 (callG SE good) (callT SE good 93 brokerref05_Key_out)
theorem Cr79 : C79 (callG SE good) (callT SE good 93 brokerref05_Key_out) = bindC (callG SE good) := by unfold C79; rw [updC_real (fun _ h => h)]
noncomputable abbrev Q79_4 (a0 : (List (List D))) (a1 : Int) : Res := R79_4 X79 (lam2 SE (callG SE good) (SE.hl 79) (SE.hr 79)) (J0 SE X79) a0 a1
theorem brokerref05_Props_l4_ok : ∀ (fu : Nat) (x0 : (List api_Prop)) (x3 : Int), Le (Option.map brokerref05_Props_out (brokerref05_Props_l4 fu x0 x3)) (Q79_4 (List.map api_Prop.enc x0) x3) := by
 intro fu
 induction fu with
 | zero => intros; exact le_none
 | succ fu ih =>
  intro x0 x3
  refine Le.trans ?_ (le_of_eq ((lab_realC Cr79).trans (T79_4 _ _ _ _  x0 x3)).symm)
  unfold brokerref05_Props_l4
  refine le_cond (by simp only [EN]) (fun _ => ?_) (fun _ => ?_)
  ·refine le_cond (by simp only [EN]) (fun _ => ?_) (fun _ => le_none)
   refine le_call (good := good) (fun y => ⟨y, rfl⟩) brokerref05_Key_inj (by first | (simp only [EN]; exact brokerref05_Key_ok ((List.getD x0 (Int.toNat x3) default).Key)) | exact brokerref05_Key_ok ((List.getD x0 (Int.toNat x3) default).Key)) (fun r0 _ => ?_)
   refine le_cond rfl (fun _ => ?_) (fun _ => ?_)
   ·exact le_ret (by first | rfl | simp only [EN, brokerref05_Props_out] <;> rfl)
   ·refine le_cond (by simp only [EN]) (fun _ => ?_) (fun _ => le_none)
    refine le_cond (by simp only [EN]) (fun _ => ?_) (fun _ => ?_)
    ·exact le_ret (by first | rfl | simp only [EN, brokerref05_Props_out] <;> rfl)
    ·refine le_cond rfl (fun _ => ?_) (fun _ => ?_)
     ·refine le_cond (by simp only [EN]) (fun _ => ?_) (fun _ => le_none)
      refine le_cond (by simp only [EN]) (fun _ => ?_) (fun _ => le_none)
      refine le_cond (by simp only [EN]) (fun _ => ?_) (fun _ => ?_)
      ·exact le_ret (by first | rfl | simp only [EN, brokerref05_Props_out] <;> rfl)
      ·exact ih x0 (IntKind.wrap .i64 (x3 + 1))
     ·exact ih x0 (IntKind.wrap .i64 (x3 + 1))
  ·exact le_ret (by first | rfl | simp only [EN, brokerref05_Props_out] <;> rfl)
theorem brokerref05_Props_ok (p0 : (List api_Prop)) : Le (Option.map brokerref05_Props_out (brokerref05_Props p0)) (callW SE 79 [.d (.sl api_Prop.ks (List.map api_Prop.enc p0))] [] []) := by
 refine le_bodyC Cr79 rfl ?_
 refine Le.trans ?_ (le_of_eq (T79 _ _ _ _  p0).symm)
 unfold brokerref05_Props
 refine le_cond (by simp only [EN]) (fun _ => ?_) (fun _ => ?_)
 ·exact le_ret (by first | rfl | simp only [EN, brokerref05_Props_out] <;> rfl)
 ·exact brokerref05_Props_l4_ok fuel p0 0
def C59 (Γ : Fun) (γ78 : Gm (Bool)) (γ57 : Gm (Bool)) (γ79 : Gm (Int)) : CFun := updC (updC (updC (bindC Γ) 78 brokerref01_Valid_out γ78) 57 brokerref01_Name_out γ57) 79 brokerref05_Props_out γ79
def R59_11 (C : CFun) (Λ2 J : Lam) (a0 : (List D)) : Res := lab SE C Λ2 J 59 0 [1, 1, 1, 1, 1, 1, 0, 0] (stoOf [(1, .ptr 1000000000 0)] [⟨27, (List.map AV.d a0)⟩] [] [] [])
def R59_9 (C : CFun) (Λ2 J : Lam) (a0 : (List D)) : Res := lab SE C Λ2 J 59 0 [1, 1, 1, 1, 1, 0, 0] (stoOf [(1, .ptr 1000000000 0)] [⟨27, (List.map AV.d a0)⟩] [] [] [])
def R59_7 (C : CFun) (Λ2 J : Lam) (a0 : (List D)) : Res := lab SE C Λ2 J 59 0 [1, 1, 1, 1, 0, 0] (stoOf [(1, .ptr 1000000000 0)] [⟨27, (List.map AV.d a0)⟩] [] [] [])
theorem T59 (Γ : Fun) (γ78 : Gm (Bool)) (γ57 : Gm (Bool)) (γ79 : Gm (Int)) (Λ2 J : Lam) (p0 : api_Message) : bodyC SE (C59 Γ γ78 γ57 γ79) Λ2 J 59 [api_Message.av p0] [] [] =
 γ78 [.d (.str p0.Topic)] [] [] fun r0 =>
 cond (!r0) (
 (some (.ret [.d (.int .i64 12)] [] []))) (
 cond (decide ((List.length p0.Payload : Int) > 256)) (
 (some (.ret [.d (.int .i64 5)] [] []))) (
 cond (decide (p0.Level < 0)) (
 (some (.ret [.d (.int .i64 14)] [] []))) (
 cond (decide (p0.Level > 2)) (
 (some (.ret [.d (.int .i64 14)] [] []))) (
 R59_7 (C59 Γ γ78 γ57 γ79) Λ2 J (api_Message.enc p0))))) := by kernel_rfl
theorem T59_11 (Γ : Fun) (γ78 : Gm (Bool)) (γ57 : Gm (Bool)) (γ79 : Gm (Int)) (Λ2 J : Lam) (b0 : api_Message) : labU SE (C59 Γ γ78 γ57 γ79) Λ2 J 59 0 [1, 1, 1, 1, 1, 1, 0, 0] (stoOf [(1, .ptr 1000000000 0)] [⟨27, (List.map AV.d (api_Message.enc b0))⟩] [] [] []) =
 cond (decide (b0.Seq < 0)) (
 (some (.ret [.d (.int .i64 1)] [] []))) (
 cond (decide (b0.Seq > 1099511627776)) (
 (some (.ret [.d (.int .i64 1)] [] []))) (
 γ79 [.d (.sl api_Prop.ks (List.map api_Prop.enc b0.Props))] [] [] fun r2 =>
 (some (.ret [.d (.int .i64 r2)] [] [])))) := by kernel_rfl
theorem T59_9 (Γ : Fun) (γ78 : Gm (Bool)) (γ57 : Gm (Bool)) (γ79 : Gm (Int)) (Λ2 J : Lam) (b0 : api_Message) : labU SE (C59 Γ γ78 γ57 γ79) Λ2 J 59 0 [1, 1, 1, 1, 1, 0, 0] (stoOf [(1, .ptr 1000000000 0)] [⟨27, (List.map AV.d (api_Message.enc b0))⟩] [] [] []) =
 cond (!(b0.From == ([] : Str))) (
 γ57 [.d (.str b0.From)] [] [] fun r1 =>
 cond (!r1) (
  (some (.ret [.d (.int .i64 11)] [] []))) (
 R59_11 (C59 Γ γ78 γ57 γ79) Λ2 J (api_Message.enc b0))) (
 R59_11 (C59 Γ γ78 γ57 γ79) Λ2 J (api_Message.enc b0)) := by kernel_rfl
theorem T59_7 (Γ : Fun) (γ78 : Gm (Bool)) (γ57 : Gm (Bool)) (γ79 : Gm (Int)) (Λ2 J : Lam) (b0 : api_Message) : labU SE (C59 Γ γ78 γ57 γ79) Λ2 J 59 0 [1, 1, 1, 1, 0, 0] (stoOf [(1, .ptr 1000000000 0)] [⟨27, (List.map AV.d (api_Message.enc b0))⟩] [] [] []) =
 cond (decide (b0.Priority < 0)) (
 (some (.ret [.d (.int .i64 1)] [] []))) (
 cond (decide (b0.Priority > 9)) (
 (some (.ret [.d (.int .i64 1)] [] []))) (
 cond (decide (b0.Expires < 0)) (
 (some (.ret [.d (.int .i64 1)] [] []))) (
 cond (decide (b0.Expires > 1099511627776)) (
 (some (.ret [.d (.int .i64 1)] [] []))) (
 R59_9 (C59 Γ γ78 γ57 γ79) Λ2 J (api_Message.enc b0))))) := by kernel_rfl
abbrev X59 : CFun := C59 (callG SE good) (callT SE good 78 brokerref01_Valid_out) (callT SE good 57 brokerref01_Name_out) (callT SE good 79 brokerref05_Props_out)
theorem Cr59 : C59 (callG SE good) (callT SE good 78 brokerref01_Valid_out) (callT SE good 57 brokerref01_Name_out) (callT SE good 79 brokerref05_Props_out) = bindC (callG SE good) := by unfold C59; rw [updC_real (fun _ h => h), updC_real (fun _ h => h), updC_real (fun _ h => h)]
noncomputable abbrev Q59_11 (a0 : (List D)) : Res := R59_11 X59 (lam2 SE (callG SE good) (SE.hl 59) (SE.hr 59)) (J0 SE X59) a0
noncomputable abbrev Q59_9 (a0 : (List D)) : Res := R59_9 X59 (lam2 SE (callG SE good) (SE.hl 59) (SE.hr 59)) (J0 SE X59) a0
noncomputable abbrev Q59_7 (a0 : (List D)) : Res := R59_7 X59 (lam2 SE (callG SE good) (SE.hl 59) (SE.hr 59)) (J0 SE X59) a0
theorem brokerref05_Check_j11_ok (b0 : api_Message) : Le (Option.map brokerref05_Check_out (brokerref05_Check_j11 b0)) (Q59_11 (api_Message.enc b0)) := by
 refine Le.trans ?_ (le_of_eq ((lab_realC Cr59).trans (T59_11 _ _ _ _ _ _  b0)).symm)
 unfold brokerref05_Check_j11
 refine le_cond rfl (fun _ => ?_) (fun _ => ?_)
 ·exact le_ret (by first | rfl | simp only [EN, brokerref05_Check_out] <;> rfl)
 ·refine le_cond rfl (fun _ => ?_) (fun _ => ?_)
  ·exact le_ret (by first | rfl | simp only [EN, brokerref05_Check_out] <;> rfl)
  ·refine le_call (good := good) (fun y => ⟨y, rfl⟩) brokerref05_Props_inj (brokerref05_Props_ok b0.Props) (fun r2 _ => ?_)
   exact le_ret (by first | rfl | simp only [EN, brokerref05_Check_out] <;> rfl)
theorem brokerref05_Check_j9_ok (b0 : api_Message) : Le (Option.map brokerref05_Check_out (brokerref05_Check_j9 b0)) (Q59_9 (api_Message.enc b0)) := by
 refine Le.trans ?_ (le_of_eq ((lab_realC Cr59).trans (T59_9 _ _ _ _ _ _  b0)).symm)
 unfold brokerref05_Check_j9
 refine le_cond rfl (fun _ => ?_) (fun _ => ?_)
 ·refine le_call (good := good) (fun y => ⟨y, rfl⟩) brokerref01_Name_inj (brokerref01_Name_ok b0.From) (fun r1 _ => ?_)
  refine le_cond rfl (fun _ => ?_) (fun _ => ?_)
  ·exact le_ret (by first | rfl | simp only [EN, brokerref05_Check_out] <;> rfl)
  ·exact brokerref05_Check_j11_ok b0
 ·exact brokerref05_Check_j11_ok b0
theorem brokerref05_Check_j7_ok (b0 : api_Message) : Le (Option.map brokerref05_Check_out (brokerref05_Check_j7 b0)) (Q59_7 (api_Message.enc b0)) := by
 refine Le.trans ?_ (le_of_eq ((lab_realC Cr59).trans (T59_7 _ _ _ _ _ _  b0)).symm)
 unfold brokerref05_Check_j7
 refine le_cond rfl (fun _ => ?_) (fun _ => ?_)
 ·exact le_ret (by first | rfl | simp only [EN, brokerref05_Check_out] <;> rfl)
 ·refine le_cond rfl (fun _ => ?_) (fun _ => ?_)
  ·exact le_ret (by first | rfl | simp only [EN, brokerref05_Check_out] <;> rfl)
  ·refine le_cond rfl (fun _ => ?_) (fun _ => ?_)
   ·exact le_ret (by first | rfl | simp only [EN, brokerref05_Check_out] <;> rfl)
   ·refine le_cond rfl (fun _ => ?_) (fun _ => ?_)
    ·exact le_ret (by first | rfl | simp only [EN, brokerref05_Check_out] <;> rfl)
    ·exact brokerref05_Check_j9_ok b0
theorem brokerref05_Check_ok (p0 : api_Message) : Le (Option.map brokerref05_Check_out (brokerref05_Check p0)) (callW SE 59 [api_Message.av p0] [] []) := by
 refine le_bodyC Cr59 rfl ?_
 refine Le.trans ?_ (le_of_eq (T59 _ _ _ _ _ _  p0).symm)
 unfold brokerref05_Check
 refine le_call (good := good) (fun y => ⟨y, rfl⟩) brokerref01_Valid_inj (brokerref01_Valid_ok p0.Topic) (fun r0 _ => ?_)
 refine le_cond rfl (fun _ => ?_) (fun _ => ?_)
 ·exact le_ret (by first | rfl | simp only [EN, brokerref05_Check_out] <;> rfl)
 ·refine le_cond rfl (fun _ => ?_) (fun _ => ?_)
  ·exact le_ret (by first | rfl | simp only [EN, brokerref05_Check_out] <;> rfl)
  ·refine le_cond rfl (fun _ => ?_) (fun _ => ?_)
   ·exact le_ret (by first | rfl | simp only [EN, brokerref05_Check_out] <;> rfl)
   ·refine le_cond rfl (fun _ => ?_) (fun _ => ?_)
    ·exact le_ret (by first | rfl | simp only [EN, brokerref05_Check_out] <;> rfl)
    ·exact brokerref05_Check_j7_ok p0
def C58 (Γ : Fun) (γ50 : Gm (Bool)) (γ59 : Gm (Int)) : CFun := updC (updC (bindC Γ) 50 brokerref05_Same_out γ50) 59 brokerref05_Check_out γ59
theorem T58 (Γ : Fun) (γ50 : Gm (Bool)) (γ59 : Gm (Int)) (Λ2 J : Lam) (p0 : api_Will) : bodyC SE (C58 Γ γ50 γ59) Λ2 J 58 [api_Will.av p0] [] [] =
 cond (!p0.Set) (
 cond (p0.Delay != 0) (
  (some (.ret [.d (.int .i64 28)] [] []))) (
 γ50 [api_Message.av p0.Message, .agg [.d (.str ([] : Str)), .d (.str ([] : Str)), .d (.int .i64 0), .d (.bool false), .d (.int .i64 0), .d (.int .i64 0), .d (.str ([] : Str)), .d (.int .i64 0), .d (.sl api_Prop.ks (List.map api_Prop.enc []))]] [] [] fun r0 =>
 cond (!r0) (
  (some (.ret [.d (.int .i64 28)] [] []))) (
 (some (.ret [.d (.int .i64 0)] [] []))))) (
 cond (decide (p0.Delay < 0)) (
 (some (.ret [.d (.int .i64 1)] [] []))) (
 cond (decide (p0.Delay > 1099511627776)) (
 (some (.ret [.d (.int .i64 1)] [] []))) (
 γ59 [api_Message.av p0.Message] [] [] fun r1 =>
 (some (.ret [.d (.int .i64 r1)] [] []))))) := by kernel_rfl
abbrev X58 : CFun := C58 (callG SE good) (callT SE good 50 brokerref05_Same_out) (callT SE good 59 brokerref05_Check_out)
theorem Cr58 : C58 (callG SE good) (callT SE good 50 brokerref05_Same_out) (callT SE good 59 brokerref05_Check_out) = bindC (callG SE good) := by unfold C58; rw [updC_real (fun _ h => h), updC_real (fun _ h => h)]
theorem brokerref06_Will_ok (p0 : api_Will) : Le (Option.map brokerref06_Will_out (brokerref06_Will p0)) (callW SE 58 [api_Will.av p0] [] []) := by
 refine le_bodyC Cr58 rfl ?_
 refine Le.trans ?_ (le_of_eq (T58 _ _ _ _ _  p0).symm)
 unfold brokerref06_Will
 refine le_cond rfl (fun _ => ?_) (fun _ => ?_)
 ·refine le_cond rfl (fun _ => ?_) (fun _ => ?_)
  ·exact le_ret (by first | rfl | simp only [EN, brokerref06_Will_out] <;> rfl)
  ·refine le_call (good := good) (fun y => ⟨y, rfl⟩) brokerref05_Same_inj (by first | (simp only [EN]; exact brokerref05_Same_ok p0.Message ((api_Message.mk ([] : Str) ([] : Str) 0 false 0 0 ([] : Str) 0 ([] : List api_Prop)))) | exact brokerref05_Same_ok p0.Message ((api_Message.mk ([] : Str) ([] : Str) 0 false 0 0 ([] : Str) 0 ([] : List api_Prop)))) (fun r0 _ => ?_)
   refine le_cond rfl (fun _ => ?_) (fun _ => ?_)
   ·exact le_ret (by first | rfl | simp only [EN, brokerref06_Will_out] <;> rfl)
   ·exact le_ret (by first | rfl | simp only [EN, brokerref06_Will_out] <;> rfl)
 ·refine le_cond rfl (fun _ => ?_) (fun _ => ?_)
  ·exact le_ret (by first | rfl | simp only [EN, brokerref06_Will_out] <;> rfl)
  ·refine le_cond rfl (fun _ => ?_) (fun _ => ?_)
   ·exact le_ret (by first | rfl | simp only [EN, brokerref06_Will_out] <;> rfl)
   ·refine le_call (good := good) (fun y => ⟨y, rfl⟩) brokerref05_Check_inj (brokerref05_Check_ok p0.Message) (fun r1 _ => ?_)
    exact le_ret (by first | rfl | simp only [EN, brokerref06_Will_out] <;> rfl)
def C32 (Γ : Fun) (γ57 : Gm (Bool)) (γ58 : Gm (Int)) : CFun := updC (updC (bindC Γ) 57 brokerref01_Name_out γ57) 58 brokerref06_Will_out γ58
def R32_3 (C : CFun) (Λ2 J : Lam) (a0 : (List D)) : Res := lab SE C Λ2 J 32 0 [1, 1, 0, 0] (stoOf [(1, .ptr 1000000000 0)] [⟨33, (List.map AV.d a0)⟩] [] [] [])
theorem T32 (Γ : Fun) (γ57 : Gm (Bool)) (γ58 : Gm (Int)) (Λ2 J : Lam) (p0 : api_Packet) : bodyC SE (C32 Γ γ57 γ58) Λ2 J 32 [api_Packet.av p0] [] [] =
 γ57 [.d (.str p0.Client)] [] [] fun r0 =>
 cond (!r0) (
 (some (.ret [.d (.int .i64 11)] [] []))) (
 cond (!(p0.User == ([] : Str))) (
 γ57 [.d (.str p0.User)] [] [] fun r1 =>
 cond (!r1) (
  (some (.ret [.d (.int .i64 11)] [] []))) (
 R32_3 (C32 Γ γ57 γ58) Λ2 J (api_Packet.enc p0))) (
 R32_3 (C32 Γ γ57 γ58) Λ2 J (api_Packet.enc p0))) := by kernel_rfl
theorem T32_3 (Γ : Fun) (γ57 : Gm (Bool)) (γ58 : Gm (Int)) (Λ2 J : Lam) (b0 : api_Packet) : labU SE (C32 Γ γ57 γ58) Λ2 J 32 0 [1, 1, 0, 0] (stoOf [(1, .ptr 1000000000 0)] [⟨33, (List.map AV.d (api_Packet.enc b0))⟩] [] [] []) =
 cond (decide (b0.Keep < 0)) (
 (some (.ret [.d (.int .i64 1)] [] []))) (
 cond (decide (b0.Keep > 1099511627776)) (
 (some (.ret [.d (.int .i64 1)] [] []))) (
 cond (decide (b0.Expiry < 0)) (
 (some (.ret [.d (.int .i64 1)] [] []))) (
 cond (decide (b0.Expiry > 1099511627776)) (
 (some (.ret [.d (.int .i64 1)] [] []))) (
 cond (decide (b0.Window < 1)) (
 (some (.ret [.d (.int .i64 1)] [] []))) (
 cond (decide (b0.Window > 32)) (
 (some (.ret [.d (.int .i64 1)] [] []))) (
 γ58 [api_Will.av b0.Will] [] [] fun r2 =>
 (some (.ret [.d (.int .i64 r2)] [] [])))))))) := by kernel_rfl
abbrev X32 : CFun := C32 (callG SE good) (callT SE good 57 brokerref01_Name_out) (callT SE good 58 brokerref06_Will_out)
theorem Cr32 : C32 (callG SE good) (callT SE good 57 brokerref01_Name_out) (callT SE good 58 brokerref06_Will_out) = bindC (callG SE good) := by unfold C32; rw [updC_real (fun _ h => h), updC_real (fun _ h => h)]
noncomputable abbrev Q32_3 (a0 : (List D)) : Res := R32_3 X32 (lam2 SE (callG SE good) (SE.hl 32) (SE.hr 32)) (J0 SE X32) a0
theorem brokerref06_connect_j3_ok (b0 : api_Packet) : Le (Option.map brokerref06_connect_out (brokerref06_connect_j3 b0)) (Q32_3 (api_Packet.enc b0)) := by
 refine Le.trans ?_ (le_of_eq ((lab_realC Cr32).trans (T32_3 _ _ _ _ _  b0)).symm)
 unfold brokerref06_connect_j3
 refine le_cond rfl (fun _ => ?_) (fun _ => ?_)
 ·exact le_ret (by first | rfl | simp only [EN, brokerref06_connect_out] <;> rfl)
 ·refine le_cond rfl (fun _ => ?_) (fun _ => ?_)
  ·exact le_ret (by first | rfl | simp only [EN, brokerref06_connect_out] <;> rfl)
  ·refine le_cond rfl (fun _ => ?_) (fun _ => ?_)
   ·exact le_ret (by first | rfl | simp only [EN, brokerref06_connect_out] <;> rfl)
   ·refine le_cond rfl (fun _ => ?_) (fun _ => ?_)
    ·exact le_ret (by first | rfl | simp only [EN, brokerref06_connect_out] <;> rfl)
    ·refine le_cond rfl (fun _ => ?_) (fun _ => ?_)
     ·exact le_ret (by first | rfl | simp only [EN, brokerref06_connect_out] <;> rfl)
     ·refine le_cond rfl (fun _ => ?_) (fun _ => ?_)
      ·exact le_ret (by first | rfl | simp only [EN, brokerref06_connect_out] <;> rfl)
      ·refine le_call (good := good) (fun y => ⟨y, rfl⟩) brokerref06_Will_inj (brokerref06_Will_ok b0.Will) (fun r2 _ => ?_)
       exact le_ret (by first | rfl | simp only [EN, brokerref06_connect_out] <;> rfl)
theorem brokerref06_connect_ok (p0 : api_Packet) : Le (Option.map brokerref06_connect_out (brokerref06_connect p0)) (callW SE 32 [api_Packet.av p0] [] []) := by
 refine le_bodyC Cr32 rfl ?_
 refine Le.trans ?_ (le_of_eq (T32 _ _ _ _ _  p0).symm)
 unfold brokerref06_connect
 refine le_call (good := good) (fun y => ⟨y, rfl⟩) brokerref01_Name_inj (brokerref01_Name_ok p0.Client) (fun r0 _ => ?_)
 refine le_cond rfl (fun _ => ?_) (fun _ => ?_)
 ·exact le_ret (by first | rfl | simp only [EN, brokerref06_connect_out] <;> rfl)
 ·refine le_cond rfl (fun _ => ?_) (fun _ => ?_)
  ·refine le_call (good := good) (fun y => ⟨y, rfl⟩) brokerref01_Name_inj (brokerref01_Name_ok p0.User) (fun r1 _ => ?_)
   refine le_cond rfl (fun _ => ?_) (fun _ => ?_)
   ·exact le_ret (by first | rfl | simp only [EN, brokerref06_connect_out] <;> rfl)
   ·exact brokerref06_connect_j3_ok p0
  ·exact brokerref06_connect_j3_ok p0
def C35 (Γ : Fun)  : CFun := bindC Γ
theorem T35 (Γ : Fun)  (Λ2 J : Lam) (p0 : Int) : bodyC SE (C35 Γ) Λ2 J 35 [.d (.int .i64 p0)] [] [] =
 cond (decide (p0 < 1)) (
 (some (.ret [.d (.int .i64 15)] [] []))) (
 cond (decide (p0 > 65535)) (
 (some (.ret [.d (.int .i64 15)] [] []))) (
 (some (.ret [.d (.int .i64 0)] [] [])))) := by kernel_rfl
abbrev X35 : CFun := C35 (callG SE good)
theorem Cr35 : C35 (callG SE good) = bindC (callG SE good) := by unfold C35; rfl
theorem brokerref06_ident_ok (p0 : Int) : Le (Option.map brokerref06_ident_out (brokerref06_ident p0)) (callW SE 35 [.d (.int .i64 p0)] [] []) := by
 refine le_bodyC Cr35 rfl ?_
 refine Le.trans ?_ (le_of_eq (T35 _ _ _  p0).symm)
 unfold brokerref06_ident
 refine le_cond rfl (fun _ => ?_) (fun _ => ?_)
 ·exact le_ret (by first | rfl | simp only [EN, brokerref06_ident_out] <;> rfl)
 ·refine le_cond rfl (fun _ => ?_) (fun _ => ?_)
  ·exact le_ret (by first | rfl | simp only [EN, brokerref06_ident_out] <;> rfl)
  ·exact le_ret (by first | rfl | simp only [EN, brokerref06_ident_out] <;> rfl)
def C33 (Γ : Fun) (γ59 : Gm (Int)) (γ35 : Gm (Int)) : CFun := updC (updC (bindC Γ) 59 brokerref05_Check_out γ59) 35 brokerref06_ident_out γ35
theorem T33 (Γ : Fun) (γ59 : Gm (Int)) (γ35 : Gm (Int)) (Λ2 J : Lam) (p0 : api_Packet) : bodyC SE (C33 Γ γ59 γ35) Λ2 J 33 [api_Packet.av p0] [] [] =
 γ59 [api_Message.av p0.Message] [] [] fun r0 =>
 cond (r0 != 0) (
 (some (.ret [.d (.int .i64 r0)] [] []))) (
 cond (p0.Message.Level == 0) (
 cond (p0.ID != 0) (
  (some (.ret [.d (.int .i64 15)] [] []))) (
 cond p0.Dup (
  (some (.ret [.d (.int .i64 28)] [] []))) (
 (some (.ret [.d (.int .i64 0)] [] []))))) (
 γ35 [.d (.int .i64 p0.ID)] [] [] fun r1 =>
 (some (.ret [.d (.int .i64 r1)] [] [])))) := by kernel_rfl
abbrev X33 : CFun := C33 (callG SE good) (callT SE good 59 brokerref05_Check_out) (callT SE good 35 brokerref06_ident_out)
theorem Cr33 : C33 (callG SE good) (callT SE good 59 brokerref05_Check_out) (callT SE good 35 brokerref06_ident_out) = bindC (callG SE good) := by unfold C33; rw [updC_real (fun _ h => h), updC_real (fun _ h => h)]
theorem brokerref06_publish_ok (p0 : api_Packet) : Le (Option.map brokerref06_publish_out (brokerref06_publish p0)) (callW SE 33 [api_Packet.av p0] [] []) := by
 refine le_bodyC Cr33 rfl ?_
 refine Le.trans ?_ (le_of_eq (T33 _ _ _ _ _  p0).symm)
 unfold brokerref06_publish
 refine le_call (good := good) (fun y => ⟨y, rfl⟩) brokerref05_Check_inj (brokerref05_Check_ok p0.Message) (fun r0 _ => ?_)
 refine le_cond rfl (fun _ => ?_) (fun _ => ?_)
 ·exact le_ret (by first | rfl | simp only [EN, brokerref06_publish_out] <;> rfl)
 ·refine le_cond rfl (fun _ => ?_) (fun _ => ?_)
  ·refine le_cond rfl (fun _ => ?_) (fun _ => ?_)
   ·exact le_ret (by first | rfl | simp only [EN, brokerref06_publish_out] <;> rfl)
   ·refine le_cond rfl (fun _ => ?_) (fun _ => ?_)
    ·exact le_ret (by first | rfl | simp only [EN, brokerref06_publish_out] <;> rfl)
    ·exact le_ret (by first | rfl | simp only [EN, brokerref06_publish_out] <;> rfl)
  ·refine le_call (good := good) (fun y => ⟨y, rfl⟩) brokerref06_ident_inj (brokerref06_ident_ok p0.ID) (fun r1 _ => ?_)
   exact le_ret (by first | rfl | simp only [EN, brokerref06_publish_out] <;> rfl)
def C34 (Γ : Fun)  : CFun := bindC Γ
theorem T34 (Γ : Fun)  (Λ2 J : Lam) (p0 : Int) : bodyC SE (C34 Γ) Λ2 J 34 [.d (.int .i64 p0)] [] [] =
 cond (decide (p0 ≥ 0)) (
 (some (.ret [.d (.bool (decide (p0 ≤ 29)))] [] []))) (
 (some (.ret [.d (.bool false)] [] []))) := by kernel_rfl
abbrev X34 : CFun := C34 (callG SE good)
theorem Cr34 : C34 (callG SE good) = bindC (callG SE good) := by unfold C34; rfl
theorem brokerref06_Code_ok (p0 : Int) : Le (Option.map brokerref06_Code_out (brokerref06_Code p0)) (callW SE 34 [.d (.int .i64 p0)] [] []) := by
 refine le_bodyC Cr34 rfl ?_
 refine Le.trans ?_ (le_of_eq (T34 _ _ _  p0).symm)
 unfold brokerref06_Code
 refine le_cond rfl (fun _ => ?_) (fun _ => ?_)
 ·exact le_ret (by first | rfl | simp only [EN, brokerref06_Code_out] <;> rfl)
 ·exact le_ret (by first | rfl | simp only [EN, brokerref06_Code_out] <;> rfl)
def C36 (Γ : Fun)  : CFun := bindC Γ
theorem T36 (Γ : Fun)  (Λ2 J : Lam) (p0 : Int) : bodyC SE (C36 Γ) Λ2 J 36 [.d (.int .i64 p0)] [] [] =
 cond (p0 == 0) (
 (some (.ret [.d (.int .i64 1)] [] []))) (
 cond (decide (p0 > 32)) (
 (some (.ret [.d (.int .i64 5)] [] []))) (
 (some (.ret [.d (.int .i64 0)] [] [])))) := by kernel_rfl
abbrev X36 : CFun := C36 (callG SE good)
theorem Cr36 : C36 (callG SE good) = bindC (callG SE good) := by unfold C36; rfl
theorem brokerref06_count_ok (p0 : Int) : Le (Option.map brokerref06_count_out (brokerref06_count p0)) (callW SE 36 [.d (.int .i64 p0)] [] []) := by
 refine le_bodyC Cr36 rfl ?_
 refine Le.trans ?_ (le_of_eq (T36 _ _ _  p0).symm)
 unfold brokerref06_count
 refine le_cond rfl (fun _ => ?_) (fun _ => ?_)
 ·exact le_ret (by first | rfl | simp only [EN, brokerref06_count_out] <;> rfl)
 ·refine le_cond rfl (fun _ => ?_) (fun _ => ?_)
  ·exact le_ret (by first | rfl | simp only [EN, brokerref06_count_out] <;> rfl)
  ·exact le_ret (by first | rfl | simp only [EN, brokerref06_count_out] <;> rfl)
def C82 (Γ : Fun)  : CFun := bindC Γ
theorem T82 (Γ : Fun)  (Λ2 J : Lam) (p0 : Str) (p1 : Str) : bodyC SE (C82 Γ) Λ2 J 82 [.d (.str p0), .d (.str p1)] [] [] =
 cond (decide ((List.length p0 : Int) ≥ (List.length p1 : Int))) (
 cond (decide (0 ≤ (List.length p1 : Int)) && decide ((List.length p1 : Int) ≤ ((List.length p0) : Int))) (
  (some (.ret [.d (.bool ((cutL p0 none (some (List.length p1 : Int))) == p1))] [] []))) none) (
 (some (.ret [.d (.bool false)] [] []))) := by kernel_rfl
abbrev X82 : CFun := C82 (callG SE good)
theorem Cr82 : C82 (callG SE good) = bindC (callG SE good) := by unfold C82; rfl
theorem brokerref01_Begins_ok (p0 : Str) (p1 : Str) : Le (Option.map brokerref01_Begins_out (brokerref01_Begins p0 p1)) (callW SE 82 [.d (.str p0), .d (.str p1)] [] []) := by
 refine le_bodyC Cr82 rfl ?_
 refine Le.trans ?_ (le_of_eq (T82 _ _ _  p0 p1).symm)
 unfold brokerref01_Begins
 refine le_cond rfl (fun _ => ?_) (fun _ => ?_)
 ·refine le_cond rfl (fun _ => ?_) (fun _ => le_none)
  exact le_ret (by first | rfl | simp only [EN, brokerref01_Begins_out] <;> rfl)
 ·exact le_ret (by first | rfl | simp only [EN, brokerref01_Begins_out] <;> rfl)
def C81 (Γ : Fun) (γ91 : Gm (Bool)) (γ94 : Gm ((List Str))) (γ92 : Gm (Bool)) : CFun := updC (updC (updC (bindC Γ) 91 brokerref01_sized_out γ91) 94 brokerref01_Levels_out γ94) 92 brokerref01_Has_out γ92
def R81_9 (C : CFun) (Λ2 J : Lam) (a0 : Int) (a1 : (List (List D))) : Res := lab SE C Λ2 J 81 0 [1, 1, 1, 0, 1, 0, 0, 1, 0, 0, 1, 0] (stoOf [(3, .row 3003), (4, .d (.int .i64 a0))] [] [] [] [(3003, ⟨[.str], 9, 16, a1⟩)])
def R81_5 (C : CFun) (Λ2 J : Lam) (a0 : Int) (a1 : (List (List D))) : Res := lab SE C Λ2 J 81 0 [1, 1, 1, 0, 1, 0] (stoOf [(3, .row 3003), (4, .d (.int .i64 a0))] [] [] [] [(3003, ⟨[.str], 9, 16, a1⟩)])
theorem T81 (Γ : Fun) (γ91 : Gm (Bool)) (γ94 : Gm ((List Str))) (γ92 : Gm (Bool)) (Λ2 J : Lam) (p0 : Str) : bodyC SE (C81 Γ γ91 γ94 γ92) Λ2 J 81 [.d (.str p0)] [] [] =
 γ91 [.d (.str p0)] [] [] fun r0 =>
 cond (!r0) (
 (some (.ret [.d (.bool false)] [] []))) (
 γ94 [.d (.str p0)] [] [] fun r1 =>
 R81_5 (C81 Γ γ91 γ94 γ92) Λ2 J 0 (List.map encS r1)) := by kernel_rfl
theorem T81_9 (Γ : Fun) (γ91 : Gm (Bool)) (γ94 : Gm ((List Str))) (γ92 : Gm (Bool)) (Λ2 J : Lam) (x4 : Int) (w3003 : (List Str)) : labU SE (C81 Γ γ91 γ94 γ92) Λ2 J 81 0 [1, 1, 1, 0, 1, 0, 0, 1, 0, 0, 1, 0] (stoOf [(3, .row 3003), (4, .d (.int .i64 x4))] [] [] [] [(3003, ⟨[.str], 9, 16, (List.map encS w3003)⟩)]) =
 cond (decide (0 ≤ x4) && decide (x4 < (List.length (List.map encS w3003) : Int))) (
 γ92 [.d (.str (dStr (cellAt (elemAt (List.map encS w3003) (Int.toNat x4)) 0))), .d (.int .u8 35)] [] [] fun r3 =>
 cond r3 (
  cond (decide (0 ≤ x4) && decide (x4 < (List.length (List.map encS w3003) : Int))) (
  cond (!((dStr (cellAt (elemAt (List.map encS w3003) (Int.toNat x4)) 0)) == ([35] : Str))) (
   (some (.ret [.d (.bool false)] [] []))) (
  cond (x4 != (IntKind.wrap .i64 ((List.length (List.map encS w3003) : Int) - 1))) (
   (some (.ret [.d (.bool false)] [] []))) (
  R81_5 (C81 Γ γ91 γ94 γ92) Λ2 J (IntKind.wrap .i64 (x4 + 1)) (List.map encS w3003)))) none) (
 R81_5 (C81 Γ γ91 γ94 γ92) Λ2 J (IntKind.wrap .i64 (x4 + 1)) (List.map encS w3003))) none := by kernel_rfl
theorem T81_5 (Γ : Fun) (γ91 : Gm (Bool)) (γ94 : Gm ((List Str))) (γ92 : Gm (Bool)) (Λ2 J : Lam) (x4 : Int) (w3003 : (List Str)) : labU SE (C81 Γ γ91 γ94 γ92) Λ2 J 81 0 [1, 1, 1, 0, 1, 0] (stoOf [(3, .row 3003), (4, .d (.int .i64 x4))] [] [] [] [(3003, ⟨[.str], 9, 16, (List.map encS w3003)⟩)]) =
 cond (decide (x4 < (List.length (List.map encS w3003) : Int))) (
 cond (decide (0 ≤ x4) && decide (x4 < (List.length (List.map encS w3003) : Int))) (
  γ92 [.d (.str (dStr (cellAt (elemAt (List.map encS w3003) (Int.toNat x4)) 0))), .d (.int .u8 43)] [] [] fun r2 =>
  cond r2 (
  cond (decide (0 ≤ x4) && decide (x4 < (List.length (List.map encS w3003) : Int))) (
   cond (!((dStr (cellAt (elemAt (List.map encS w3003) (Int.toNat x4)) 0)) == ([43] : Str))) (
   (some (.ret [.d (.bool false)] [] []))) (
   R81_9 (C81 Γ γ91 γ94 γ92) Λ2 J x4 (List.map encS w3003))) none) (
  R81_9 (C81 Γ γ91 γ94 γ92) Λ2 J x4 (List.map encS w3003))) none) (
 (some (.ret [.d (.bool true)] [] []))) := by kernel_rfl
abbrev X81 : CFun := C81 (callG SE good) (callT SE good 91 brokerref01_sized_out) (callT SE good 94 brokerref01_Levels_out) (callT SE good 92 brokerref01_Has_out)
theorem Cr81 : C81 (callG SE good) (callT SE good 91 brokerref01_sized_out) (callT SE good 94 brokerref01_Levels_out) (callT SE good 92 brokerref01_Has_out) = bindC (callG SE good) := by unfold C81; rw [updC_real (fun _ h => h), updC_real (fun _ h => h), updC_real (fun _ h => h)]
noncomputable abbrev Q81_9 (a0 : Int) (a1 : (List (List D))) : Res := R81_9 X81 (lam2 SE (callG SE good) (SE.hl 81) (SE.hr 81)) (J0 SE X81) a0 a1
noncomputable abbrev Q81_5 (a0 : Int) (a1 : (List (List D))) : Res := R81_5 X81 (lam2 SE (callG SE good) (SE.hl 81) (SE.hr 81)) (J0 SE X81) a0 a1
theorem brokerref01_Filter_j9_ok (k5 : Int → (List Str) → Option (Bool)) (hk5 : ∀ (x4 : Int) (w3003 : (List Str)), Le (Option.map brokerref01_Filter_out (k5 x4 w3003)) (Q81_5 x4 (List.map encS w3003))) (x4 : Int) (w3003 : (List Str)) : Le (Option.map brokerref01_Filter_out (brokerref01_Filter_j9 k5 x4 w3003)) (Q81_9 x4 (List.map encS w3003)) := by
 refine Le.trans ?_ (le_of_eq ((lab_realC Cr81).trans (T81_9 _ _ _ _ _ _  x4 w3003)).symm)
 unfold brokerref01_Filter_j9
 refine le_cond (by simp only [EN]) (fun _ => ?_) (fun _ => le_none)
 refine le_call (good := good) (fun y => ⟨y, rfl⟩) brokerref01_Has_inj (by first | (simp only [EN]; exact brokerref01_Has_ok (List.getD w3003 (Int.toNat x4) default) 35) | exact brokerref01_Has_ok (List.getD w3003 (Int.toNat x4) default) 35) (fun r3 _ => ?_)
 refine le_cond rfl (fun _ => ?_) (fun _ => ?_)
 ·refine le_cond (by simp only [EN]) (fun _ => ?_) (fun _ => le_none)
  refine le_cond (by simp only [EN]) (fun _ => ?_) (fun _ => ?_)
  ·exact le_ret (by first | rfl | simp only [EN, brokerref01_Filter_out] <;> rfl)
  ·refine le_cond (by simp only [EN]) (fun _ => ?_) (fun _ => ?_)
   ·exact le_ret (by first | rfl | simp only [EN, brokerref01_Filter_out] <;> rfl)
   ·exact hk5 (IntKind.wrap .i64 (x4 + 1)) w3003
 ·exact hk5 (IntKind.wrap .i64 (x4 + 1)) w3003
theorem brokerref01_Filter_l5_ok : ∀ (fu : Nat) (x4 : Int) (w3003 : (List Str)), Le (Option.map brokerref01_Filter_out (brokerref01_Filter_l5 fu x4 w3003)) (Q81_5 x4 (List.map encS w3003)) := by
 intro fu
 induction fu with
 | zero => intros; exact le_none
 | succ fu ih =>
  intro x4 w3003
  refine Le.trans ?_ (le_of_eq ((lab_realC Cr81).trans (T81_5 _ _ _ _ _ _  x4 w3003)).symm)
  unfold brokerref01_Filter_l5
  refine le_cond (by simp only [EN]) (fun _ => ?_) (fun _ => ?_)
  ·refine le_cond (by simp only [EN]) (fun _ => ?_) (fun _ => le_none)
   refine le_call (good := good) (fun y => ⟨y, rfl⟩) brokerref01_Has_inj (by first | (simp only [EN]; exact brokerref01_Has_ok (List.getD w3003 (Int.toNat x4) default) 43) | exact brokerref01_Has_ok (List.getD w3003 (Int.toNat x4) default) 43) (fun r2 _ => ?_)
   refine le_cond rfl (fun _ => ?_) (fun _ => ?_)
   ·refine le_cond (by simp only [EN]) (fun _ => ?_) (fun _ => le_none)
    refine le_cond (by simp only [EN]) (fun _ => ?_) (fun _ => ?_)
    ·exact le_ret (by first | rfl | simp only [EN, brokerref01_Filter_out] <;> rfl)
    ·exact brokerref01_Filter_j9_ok _ (ih) x4 w3003
   ·exact brokerref01_Filter_j9_ok _ (ih) x4 w3003
  ·exact le_ret (by first | rfl | simp only [EN, brokerref01_Filter_out] <;> rfl)
theorem brokerref01_Filter_ok (p0 : Str) : Le (Option.map brokerref01_Filter_out (brokerref01_Filter p0)) (callW SE 81 [.d (.str p0)] [] []) := by
 refine le_bodyC Cr81 rfl ?_
 refine Le.trans ?_ (le_of_eq (T81 _ _ _ _ _ _  p0).symm)
 unfold brokerref01_Filter
 refine le_call (good := good) (fun y => ⟨y, rfl⟩) brokerref01_sized_inj (brokerref01_sized_ok p0) (fun r0 _ => ?_)
 refine le_cond rfl (fun _ => ?_) (fun _ => ?_)
 ·exact le_ret (by first | rfl | simp only [EN, brokerref01_Filter_out] <;> rfl)
 ·refine le_call (good := good) (fun y => ⟨y, rfl⟩) brokerref01_Levels_inj (brokerref01_Levels_ok p0) (fun r1 _ => ?_)
  exact brokerref01_Filter_l5_ok fuel 0 r1
def C80 (Γ : Fun) (γ82 : Gm (Bool)) (γ57 : Gm (Bool)) (γ81 : Gm (Bool)) : CFun := updC (updC (updC (bindC Γ) 82 brokerref01_Begins_out γ82) 57 brokerref01_Name_out γ57) 81 brokerref01_Filter_out γ81
def R80_9 (C : CFun) (Λ2 J : Lam) (a0 : Str) (a1 : Int) : Res := lab SE C Λ2 J 80 0 [1, 1, 1, 1, 1, 1, 0] (stoOf [(5, .d (.str a0)), (6, .d (.int .i64 a1))] [] [] [] [])
def R80_7 (C : CFun) (Λ2 J : Lam) (a0 : Str) (a1 : Int) : Res := lab SE C Λ2 J 80 0 [1, 1, 1, 1, 1, 0, 0] (stoOf [(5, .d (.str a0)), (6, .d (.int .i64 a1))] [] [] [] [])
def R80_5 (C : CFun) (Λ2 J : Lam) (a0 : Str) (a1 : Int) : Res := lab SE C Λ2 J 80 0 [1, 1, 1, 1, 0, 0] (stoOf [(5, .d (.str a0)), (6, .d (.int .i64 a1))] [] [] [] [])
theorem T80 (Γ : Fun) (γ82 : Gm (Bool)) (γ57 : Gm (Bool)) (γ81 : Gm (Bool)) (Λ2 J : Lam) (p0 : Str) : bodyC SE (C80 Γ γ82 γ57 γ81) Λ2 J 80 [.d (.str p0)] [] [] =
 γ82 [.d (.str p0), .d (.str ([36, 115, 104, 97, 114, 101, 47] : Str))] [] [] fun r0 =>
 cond (!r0) (
 (some (.ret [.d (.str ([] : Str)), .d (.str ([] : Str)), .d (.bool false)] [] []))) (
 cond (decide (0 ≤ 7) && decide (7 ≤ ((List.length p0) : Int))) (
 R80_5 (C80 Γ γ82 γ57 γ81) Λ2 J (cutL p0 (some 7) none) 0) none) := by kernel_rfl
theorem T80_9 (Γ : Fun) (γ82 : Gm (Bool)) (γ57 : Gm (Bool)) (γ81 : Gm (Bool)) (Λ2 J : Lam) (x5 : Str) (x6 : Int) : labU SE (C80 Γ γ82 γ57 γ81) Λ2 J 80 0 [1, 1, 1, 1, 1, 1, 0] (stoOf [(5, .d (.str x5)), (6, .d (.int .i64 x6))] [] [] [] []) =
 cond (decide (0 ≤ x6) && decide (x6 ≤ ((List.length x5) : Int))) (
 cond (decide (0 ≤ (IntKind.wrap .i64 (x6 + 1))) && decide ((IntKind.wrap .i64 (x6 + 1)) ≤ ((List.length x5) : Int))) (
  (some (.ret [.d (.str (cutL x5 none (some x6))), .d (.str (cutL x5 (some (IntKind.wrap .i64 (x6 + 1))) none)), .d (.bool true)] [] []))) none) none := by kernel_rfl
theorem T80_7 (Γ : Fun) (γ82 : Gm (Bool)) (γ57 : Gm (Bool)) (γ81 : Gm (Bool)) (Λ2 J : Lam) (x5 : Str) (x6 : Int) : labU SE (C80 Γ γ82 γ57 γ81) Λ2 J 80 0 [1, 1, 1, 1, 1, 0, 0] (stoOf [(5, .d (.str x5)), (6, .d (.int .i64 x6))] [] [] [] []) =
 cond (x6 == (List.length x5 : Int)) (
 (some (.ret [.d (.str ([] : Str)), .d (.str ([] : Str)), .d (.bool false)] [] []))) (
 cond (decide (0 ≤ x6) && decide (x6 ≤ ((List.length x5) : Int))) (
 γ57 [.d (.str (cutL x5 none (some x6)))] [] [] fun r1 =>
 cond (!r1) (
  (some (.ret [.d (.str ([] : Str)), .d (.str ([] : Str)), .d (.bool false)] [] []))) (
 cond (decide (0 ≤ (IntKind.wrap .i64 (x6 + 1))) && decide ((IntKind.wrap .i64 (x6 + 1)) ≤ ((List.length x5) : Int))) (
  γ81 [.d (.str (cutL x5 (some (IntKind.wrap .i64 (x6 + 1))) none))] [] [] fun r2 =>
  cond (!r2) (
  (some (.ret [.d (.str ([] : Str)), .d (.str ([] : Str)), .d (.bool false)] [] []))) (
  cond (decide (0 ≤ (IntKind.wrap .i64 (x6 + 1))) && decide ((IntKind.wrap .i64 (x6 + 1)) ≤ ((List.length x5) : Int))) (
  γ82 [.d (.str (cutL x5 (some (IntKind.wrap .i64 (x6 + 1))) none)), .d (.str ([36, 115, 104, 97, 114, 101, 47] : Str))] [] [] fun r3 =>
  cond r3 (
   (some (.ret [.d (.str ([] : Str)), .d (.str ([] : Str)), .d (.bool false)] [] []))) (
  R80_9 (C80 Γ γ82 γ57 γ81) Λ2 J x5 x6)) none)) none)) none) := by kernel_rfl
theorem T80_5 (Γ : Fun) (γ82 : Gm (Bool)) (γ57 : Gm (Bool)) (γ81 : Gm (Bool)) (Λ2 J : Lam) (x5 : Str) (x6 : Int) : labU SE (C80 Γ γ82 γ57 γ81) Λ2 J 80 0 [1, 1, 1, 1, 0, 0] (stoOf [(5, .d (.str x5)), (6, .d (.int .i64 x6))] [] [] [] []) =
 cond (decide (x6 < (List.length x5 : Int))) (
 cond (decide (0 ≤ x6) && decide (x6 < (List.length x5 : Int))) (
  cond ((UInt8.toNat (List.getD x5 (Int.toNat x6) 0) : Int) != 47) (
  R80_5 (C80 Γ γ82 γ57 γ81) Λ2 J x5 (IntKind.wrap .i64 (x6 + 1))) (
  R80_7 (C80 Γ γ82 γ57 γ81) Λ2 J x5 x6)) none) (
 R80_7 (C80 Γ γ82 γ57 γ81) Λ2 J x5 x6) := by kernel_rfl
abbrev X80 : CFun := C80 (callG SE good) (callT SE good 82 brokerref01_Begins_out) (callT SE good 57 brokerref01_Name_out) (callT SE good 81 brokerref01_Filter_out)
theorem Cr80 : C80 (callG SE good) (callT SE good 82 brokerref01_Begins_out) (callT SE good 57 brokerref01_Name_out) (callT SE good 81 brokerref01_Filter_out) = bindC (callG SE good) := by unfold C80; rw [updC_real (fun _ h => h), updC_real (fun _ h => h), updC_real (fun _ h => h)]
noncomputable abbrev Q80_9 (a0 : Str) (a1 : Int) : Res := R80_9 X80 (lam2 SE (callG SE good) (SE.hl 80) (SE.hr 80)) (J0 SE X80) a0 a1
noncomputable abbrev Q80_7 (a0 : Str) (a1 : Int) : Res := R80_7 X80 (lam2 SE (callG SE good) (SE.hl 80) (SE.hr 80)) (J0 SE X80) a0 a1
noncomputable abbrev Q80_5 (a0 : Str) (a1 : Int) : Res := R80_5 X80 (lam2 SE (callG SE good) (SE.hl 80) (SE.hr 80)) (J0 SE X80) a0 a1
theorem brokerref01_Shared_j9_ok (x5 : Str) (x6 : Int) : Le (Option.map brokerref01_Shared_out (brokerref01_Shared_j9 x5 x6)) (Q80_9 x5 x6) := by
 refine Le.trans ?_ (le_of_eq ((lab_realC Cr80).trans (T80_9 _ _ _ _ _ _  x5 x6)).symm)
 unfold brokerref01_Shared_j9
 refine le_cond rfl (fun _ => ?_) (fun _ => le_none)
 refine le_cond rfl (fun _ => ?_) (fun _ => le_none)
 exact le_ret (by first | rfl | simp only [EN, brokerref01_Shared_out] <;> rfl)
theorem brokerref01_Shared_j7_ok (x5 : Str) (x6 : Int) : Le (Option.map brokerref01_Shared_out (brokerref01_Shared_j7 x5 x6)) (Q80_7 x5 x6) := by
 refine Le.trans ?_ (le_of_eq ((lab_realC Cr80).trans (T80_7 _ _ _ _ _ _  x5 x6)).symm)
 unfold brokerref01_Shared_j7
 refine le_cond rfl (fun _ => ?_) (fun _ => ?_)
 ·exact le_ret (by first | rfl | simp only [EN, brokerref01_Shared_out] <;> rfl)
 ·refine le_cond rfl (fun _ => ?_) (fun _ => le_none)
  refine le_call (good := good) (fun y => ⟨y, rfl⟩) brokerref01_Name_inj (brokerref01_Name_ok (cutL x5 none (some x6))) (fun r1 _ => ?_)
  refine le_cond rfl (fun _ => ?_) (fun _ => ?_)
  ·exact le_ret (by first | rfl | simp only [EN, brokerref01_Shared_out] <;> rfl)
  ·refine le_cond rfl (fun _ => ?_) (fun _ => le_none)
   refine le_call (good := good) (fun y => ⟨y, rfl⟩) brokerref01_Filter_inj (brokerref01_Filter_ok (cutL x5 (some (IntKind.wrap .i64 (x6 + 1))) none)) (fun r2 _ => ?_)
   refine le_cond rfl (fun _ => ?_) (fun _ => ?_)
   ·exact le_ret (by first | rfl | simp only [EN, brokerref01_Shared_out] <;> rfl)
   ·refine le_cond rfl (fun _ => ?_) (fun _ => le_none)
    refine le_call (good := good) (fun y => ⟨y, rfl⟩) brokerref01_Begins_inj (brokerref01_Begins_ok (cutL x5 (some (IntKind.wrap .i64 (x6 + 1))) none) ([36, 115, 104, 97, 114, 101, 47] : Str)) (fun r3 _ => ?_)
    refine le_cond rfl (fun _ => ?_) (fun _ => ?_)
    ·exact le_ret (by first | rfl | simp only [EN, brokerref01_Shared_out] <;> rfl)
    ·exact brokerref01_Shared_j9_ok x5 x6
theorem brokerref01_Shared_l5_ok : ∀ (fu : Nat) (x5 : Str) (x6 : Int), Le (Option.map brokerref01_Shared_out (brokerref01_Shared_l5 fu x5 x6)) (Q80_5 x5 x6) := by
 intro fu
 induction fu with
 | zero => intros; exact le_none
 | succ fu ih =>
  intro x5 x6
  refine Le.trans ?_ (le_of_eq ((lab_realC Cr80).trans (T80_5 _ _ _ _ _ _  x5 x6)).symm)
  unfold brokerref01_Shared_l5
  refine le_cond rfl (fun _ => ?_) (fun _ => ?_)
  ·refine le_cond rfl (fun _ => ?_) (fun _ => le_none)
   refine le_cond rfl (fun _ => ?_) (fun _ => ?_)
   ·exact ih x5 (IntKind.wrap .i64 (x6 + 1))
   ·exact brokerref01_Shared_j7_ok x5 x6
  ·exact brokerref01_Shared_j7_ok x5 x6
theorem brokerref01_Shared_ok (p0 : Str) : Le (Option.map brokerref01_Shared_out (brokerref01_Shared p0)) (callW SE 80 [.d (.str p0)] [] []) := by
 refine le_bodyC Cr80 rfl ?_
 refine Le.trans ?_ (le_of_eq (T80 _ _ _ _ _ _  p0).symm)
 unfold brokerref01_Shared
 refine le_call (good := good) (fun y => ⟨y, rfl⟩) brokerref01_Begins_inj (brokerref01_Begins_ok p0 ([36, 115, 104, 97, 114, 101, 47] : Str)) (fun r0 _ => ?_)
 refine le_cond rfl (fun _ => ?_) (fun _ => ?_)
 ·exact le_ret (by first | rfl | simp only [EN, brokerref01_Shared_out] <;> rfl)
 ·refine le_cond rfl (fun _ => ?_) (fun _ => le_none)
  exact brokerref01_Shared_l5_ok fuel (cutL p0 (some 7) none) 0
def C61 (Γ : Fun) (γ80 : Gm (Str × Str × Bool)) (γ81 : Gm (Bool)) (γ82 : Gm (Bool)) : CFun := updC (updC (updC (bindC Γ) 80 brokerref01_Shared_out γ80) 81 brokerref01_Filter_out γ81) 82 brokerref01_Begins_out γ82
theorem T61 (Γ : Fun) (γ80 : Gm (Str × Str × Bool)) (γ81 : Gm (Bool)) (γ82 : Gm (Bool)) (Λ2 J : Lam) (p0 : Str) : bodyC SE (C61 Γ γ80 γ81 γ82) Λ2 J 61 [.d (.str p0)] [] [] =
 γ80 [.d (.str p0)] [] [] fun r0 =>
 cond r0.2.2 (
 (some (.ret [.d (.bool true)] [] []))) (
 γ81 [.d (.str p0)] [] [] fun r1 =>
 cond r1 (
 γ82 [.d (.str p0), .d (.str ([36, 115, 104, 97, 114, 101, 47] : Str))] [] [] fun r2 =>
 (some (.ret [.d (.bool (!r2))] [] []))) (
 (some (.ret [.d (.bool false)] [] [])))) := by kernel_rfl
abbrev X61 : CFun := C61 (callG SE good) (callT SE good 80 brokerref01_Shared_out) (callT SE good 81 brokerref01_Filter_out) (callT SE good 82 brokerref01_Begins_out)
theorem Cr61 : C61 (callG SE good) (callT SE good 80 brokerref01_Shared_out) (callT SE good 81 brokerref01_Filter_out) (callT SE good 82 brokerref01_Begins_out) = bindC (callG SE good) := by unfold C61; rw [updC_real (fun _ h => h), updC_real (fun _ h => h), updC_real (fun _ h => h)]
theorem brokerref01_Wanted_ok (p0 : Str) : Le (Option.map brokerref01_Wanted_out (brokerref01_Wanted p0)) (callW SE 61 [.d (.str p0)] [] []) := by
 refine le_bodyC Cr61 rfl ?_
 refine Le.trans ?_ (le_of_eq (T61 _ _ _ _ _ _  p0).symm)
 unfold brokerref01_Wanted
 refine le_call (good := good) (fun y => ⟨y, rfl⟩) brokerref01_Shared_inj (brokerref01_Shared_ok p0) (fun r0 _ => ?_)
 refine le_cond rfl (fun _ => ?_) (fun _ => ?_)
 ·exact le_ret (by first | rfl | simp only [EN, brokerref01_Wanted_out] <;> rfl)
 ·refine le_call (good := good) (fun y => ⟨y, rfl⟩) brokerref01_Filter_inj (brokerref01_Filter_ok p0) (fun r1 _ => ?_)
  refine le_cond rfl (fun _ => ?_) (fun _ => ?_)
  ·refine le_call (good := good) (fun y => ⟨y, rfl⟩) brokerref01_Begins_inj (brokerref01_Begins_ok p0 ([36, 115, 104, 97, 114, 101, 47] : Str)) (fun r2 _ => ?_)
   exact le_ret (by first | rfl | simp only [EN, brokerref01_Wanted_out] <;> rfl)
  ·exact le_ret (by first | rfl | simp only [EN, brokerref01_Wanted_out] <;> rfl)
def C60 (Γ : Fun) (γ61 : Gm (Bool)) (γ80 : Gm (Str × Str × Bool)) : CFun := updC (updC (bindC Γ) 61 brokerref01_Wanted_out γ61) 80 brokerref01_Shared_out γ80
def R60_5 (C : CFun) (Λ2 J : Lam) (a0 : (List D)) : Res := lab SE C Λ2 J 60 0 [1, 1, 1, 0] (stoOf [(1, .ptr 1000000000 0)] [⟨83, (List.map AV.d a0)⟩] [] [] [])
theorem T60 (Γ : Fun) (γ61 : Gm (Bool)) (γ80 : Gm (Str × Str × Bool)) (Λ2 J : Lam) (p0 : api_Sub) : bodyC SE (C60 Γ γ61 γ80) Λ2 J 60 [api_Sub.av p0] [] [] =
 γ61 [.d (.str p0.Filter)] [] [] fun r0 =>
 cond (!r0) (
 (some (.ret [.d (.int .i64 13)] [] []))) (
 cond (decide (p0.Level < 0)) (
 (some (.ret [.d (.int .i64 14)] [] []))) (
 cond (decide (p0.Level > 2)) (
 (some (.ret [.d (.int .i64 14)] [] []))) (
 R60_5 (C60 Γ γ61 γ80) Λ2 J (api_Sub.enc p0)))) := by kernel_rfl
theorem T60_5 (Γ : Fun) (γ61 : Gm (Bool)) (γ80 : Gm (Str × Str × Bool)) (Λ2 J : Lam) (b0 : api_Sub) : labU SE (C60 Γ γ61 γ80) Λ2 J 60 0 [1, 1, 1, 0] (stoOf [(1, .ptr 1000000000 0)] [⟨83, (List.map AV.d (api_Sub.enc b0))⟩] [] [] []) =
 γ80 [.d (.str b0.Filter)] [] [] fun r1 =>
 cond b0.NoLocal (
 cond r1.2.2 (
  (some (.ret [.d (.int .i64 28)] [] []))) (
 (some (.ret [.d (.int .i64 0)] [] [])))) (
 (some (.ret [.d (.int .i64 0)] [] []))) := by kernel_rfl
abbrev X60 : CFun := C60 (callG SE good) (callT SE good 61 brokerref01_Wanted_out) (callT SE good 80 brokerref01_Shared_out)
theorem Cr60 : C60 (callG SE good) (callT SE good 61 brokerref01_Wanted_out) (callT SE good 80 brokerref01_Shared_out) = bindC (callG SE good) := by unfold C60; rw [updC_real (fun _ h => h), updC_real (fun _ h => h)]
noncomputable abbrev Q60_5 (a0 : (List D)) : Res := R60_5 X60 (lam2 SE (callG SE good) (SE.hl 60) (SE.hr 60)) (J0 SE X60) a0
theorem brokerref06_Sub_j5_ok (b0 : api_Sub) : Le (Option.map brokerref06_Sub_out (brokerref06_Sub_j5 b0)) (Q60_5 (api_Sub.enc b0)) := by
 refine Le.trans ?_ (le_of_eq ((lab_realC Cr60).trans (T60_5 _ _ _ _ _  b0)).symm)
 unfold brokerref06_Sub_j5
 refine le_call (good := good) (fun y => ⟨y, rfl⟩) brokerref01_Shared_inj (brokerref01_Shared_ok b0.Filter) (fun r1 _ => ?_)
 refine le_cond rfl (fun _ => ?_) (fun _ => ?_)
 ·refine le_cond rfl (fun _ => ?_) (fun _ => ?_)
  ·exact le_ret (by first | rfl | simp only [EN, brokerref06_Sub_out] <;> rfl)
  ·exact le_ret (by first | rfl | simp only [EN, brokerref06_Sub_out] <;> rfl)
 ·exact le_ret (by first | rfl | simp only [EN, brokerref06_Sub_out] <;> rfl)
theorem brokerref06_Sub_ok (p0 : api_Sub) : Le (Option.map brokerref06_Sub_out (brokerref06_Sub p0)) (callW SE 60 [api_Sub.av p0] [] []) := by
 refine le_bodyC Cr60 rfl ?_
 refine Le.trans ?_ (le_of_eq (T60 _ _ _ _ _  p0).symm)
 unfold brokerref06_Sub
 refine le_call (good := good) (fun y => ⟨y, rfl⟩) brokerref01_Wanted_inj (brokerref01_Wanted_ok p0.Filter) (fun r0 _ => ?_)
 refine le_cond rfl (fun _ => ?_) (fun _ => ?_)
 ·exact le_ret (by first | rfl | simp only [EN, brokerref06_Sub_out] <;> rfl)
 ·refine le_cond rfl (fun _ => ?_) (fun _ => ?_)
  ·exact le_ret (by first | rfl | simp only [EN, brokerref06_Sub_out] <;> rfl)
  ·refine le_cond rfl (fun _ => ?_) (fun _ => ?_)
   ·exact le_ret (by first | rfl | simp only [EN, brokerref06_Sub_out] <;> rfl)
   ·exact brokerref06_Sub_j5_ok p0
def C37 (Γ : Fun) (γ60 : Gm (Int)) (γ61 : Gm (Bool)) (γ34 : Gm (Bool)) : CFun := updC (updC (updC (bindC Γ) 60 brokerref06_Sub_out γ60) 61 brokerref01_Wanted_out γ61) 34 brokerref06_Code_out γ34
def R37_13 (C : CFun) (Λ2 J : Lam) (a0 : Int) (a1 : (List D)) : Res := lab SE C Λ2 J 37 0 [1, 1, 1, 0, 1, 0] (stoOf [(1, .ptr 1000000000 0), (6, .d (.int .i64 a0))] [⟨33, (List.map AV.d a1)⟩] [] [] [])
def R37_8 (C : CFun) (Λ2 J : Lam) (a0 : Int) (a1 : (List D)) : Res := lab SE C Λ2 J 37 0 [1, 1, 0, 1, 0] (stoOf [(1, .ptr 1000000000 0), (5, .d (.int .i64 a0))] [⟨33, (List.map AV.d a1)⟩] [] [] [])
def R37_2 (C : CFun) (Λ2 J : Lam) (a0 : Int) (a1 : (List D)) : Res := lab SE C Λ2 J 37 0 [1, 0, 1, 0] (stoOf [(1, .ptr 1000000000 0), (3, .d (.int .i64 a0))] [⟨33, (List.map AV.d a1)⟩] [] [] [])
theorem T37 (Γ : Fun) (γ60 : Gm (Int)) (γ61 : Gm (Bool)) (γ34 : Gm (Bool)) (Λ2 J : Lam) (p0 : api_Packet) : bodyC SE (C37 Γ γ60 γ61 γ34) Λ2 J 37 [api_Packet.av p0] [] [] =
 R37_2 (C37 Γ γ60 γ61 γ34) Λ2 J 0 (api_Packet.enc p0) := by kernel_rfl
theorem T37_13 (Γ : Fun) (γ60 : Gm (Int)) (γ61 : Gm (Bool)) (γ34 : Gm (Bool)) (Λ2 J : Lam) (x6 : Int) (b0 : api_Packet) : labU SE (C37 Γ γ60 γ61 γ34) Λ2 J 37 0 [1, 1, 1, 0, 1, 0] (stoOf [(1, .ptr 1000000000 0), (6, .d (.int .i64 x6))] [⟨33, (List.map AV.d (api_Packet.enc b0))⟩] [] [] []) =
 cond (decide (x6 < (List.length (List.map (encI .i64) b0.Codes) : Int))) (
 cond (decide (0 ≤ x6) && decide (x6 < (List.length (List.map (encI .i64) b0.Codes) : Int))) (
  γ34 [.d (.int .i64 (dInt (cellAt (elemAt (List.map (encI .i64) b0.Codes) (Int.toNat x6)) 0)))] [] [] fun r2 =>
  cond (!r2) (
  (some (.ret [.d (.int .i64 1)] [] []))) (
  R37_13 (C37 Γ γ60 γ61 γ34) Λ2 J (IntKind.wrap .i64 (x6 + 1)) (api_Packet.enc b0))) none) (
 (some (.ret [.d (.int .i64 0)] [] []))) := by kernel_rfl
theorem T37_8 (Γ : Fun) (γ60 : Gm (Int)) (γ61 : Gm (Bool)) (γ34 : Gm (Bool)) (Λ2 J : Lam) (x5 : Int) (b0 : api_Packet) : labU SE (C37 Γ γ60 γ61 γ34) Λ2 J 37 0 [1, 1, 0, 1, 0] (stoOf [(1, .ptr 1000000000 0), (5, .d (.int .i64 x5))] [⟨33, (List.map AV.d (api_Packet.enc b0))⟩] [] [] []) =
 cond (decide (x5 < (List.length (List.map encS b0.Filters) : Int))) (
 cond (decide (0 ≤ x5) && decide (x5 < (List.length (List.map encS b0.Filters) : Int))) (
  γ61 [.d (.str (dStr (cellAt (elemAt (List.map encS b0.Filters) (Int.toNat x5)) 0)))] [] [] fun r1 =>
  cond (!r1) (
  (some (.ret [.d (.int .i64 13)] [] []))) (
  R37_8 (C37 Γ γ60 γ61 γ34) Λ2 J (IntKind.wrap .i64 (x5 + 1)) (api_Packet.enc b0))) none) (
 R37_13 (C37 Γ γ60 γ61 γ34) Λ2 J 0 (api_Packet.enc b0)) := by kernel_rfl
theorem T37_2 (Γ : Fun) (γ60 : Gm (Int)) (γ61 : Gm (Bool)) (γ34 : Gm (Bool)) (Λ2 J : Lam) (x3 : Int) (b0 : api_Packet) : labU SE (C37 Γ γ60 γ61 γ34) Λ2 J 37 0 [1, 0, 1, 0] (stoOf [(1, .ptr 1000000000 0), (3, .d (.int .i64 x3))] [⟨33, (List.map AV.d (api_Packet.enc b0))⟩] [] [] []) =
 cond (decide (x3 < (List.length (List.map api_Sub.enc b0.Subs) : Int))) (
 cond (decide (0 ≤ x3) && decide (x3 < (List.length (List.map api_Sub.enc b0.Subs) : Int))) (
  γ60 [.agg [.d (.str (dStr (cellAt (elemAt (List.map api_Sub.enc b0.Subs) (Int.toNat x3)) 0))), .d (.int .i64 (dInt (cellAt (elemAt (List.map api_Sub.enc b0.Subs) (Int.toNat x3)) 1))), .d (.bool (dBool (cellAt (elemAt (List.map api_Sub.enc b0.Subs) (Int.toNat x3)) 2)))]] [] [] fun r0 =>
  cond (r0 != 0) (
  (some (.ret [.d (.int .i64 r0)] [] []))) (
  R37_2 (C37 Γ γ60 γ61 γ34) Λ2 J (IntKind.wrap .i64 (x3 + 1)) (api_Packet.enc b0))) none) (
 R37_8 (C37 Γ γ60 γ61 γ34) Λ2 J 0 (api_Packet.enc b0)) := by kernel_rfl
abbrev X37 : CFun := C37 (callG SE good) (callT SE good 60 brokerref06_Sub_out) (callT SE good 61 brokerref01_Wanted_out) (callT SE good 34 brokerref06_Code_out)
theorem Cr37 : C37 (callG SE good) (callT SE good 60 brokerref06_Sub_out) (callT SE good 61 brokerref01_Wanted_out) (callT SE good 34 brokerref06_Code_out) = bindC (callG SE good) := by unfold C37; rw [updC_real (fun _ h => h), updC_real (fun _ h => h), updC_real (fun _ h => h)]
noncomputable abbrev Q37_13 (a0 : Int) (a1 : (List D)) : Res := R37_13 X37 (lam2 SE (callG SE good) (SE.hl 37) (SE.hr 37)) (J0 SE X37) a0 a1
noncomputable abbrev Q37_8 (a0 : Int) (a1 : (List D)) : Res := R37_8 X37 (lam2 SE (callG SE good) (SE.hl 37) (SE.hr 37)) (J0 SE X37) a0 a1
noncomputable abbrev Q37_2 (a0 : Int) (a1 : (List D)) : Res := R37_2 X37 (lam2 SE (callG SE good) (SE.hl 37) (SE.hr 37)) (J0 SE X37) a0 a1
theorem brokerref06_elements_l13_ok : ∀ (fu : Nat) (x6 : Int) (b0 : api_Packet), Le (Option.map brokerref06_elements_out (brokerref06_elements_l13 fu x6 b0)) (Q37_13 x6 (api_Packet.enc b0)) := by
 intro fu
 induction fu with
 | zero => intros; exact le_none
 | succ fu ih =>
  intro x6 b0
  refine Le.trans ?_ (le_of_eq ((lab_realC Cr37).trans (T37_13 _ _ _ _ _ _  x6 b0)).symm)
  unfold brokerref06_elements_l13
  refine le_cond (by simp only [EN]) (fun _ => ?_) (fun _ => ?_)
  ·refine le_cond (by simp only [EN]) (fun _ => ?_) (fun _ => le_none)
   refine le_call (good := good) (fun y => ⟨y, rfl⟩) brokerref06_Code_inj (by first | (simp only [EN]; exact brokerref06_Code_ok (List.getD b0.Codes (Int.toNat x6) default)) | exact brokerref06_Code_ok (List.getD b0.Codes (Int.toNat x6) default)) (fun r2 _ => ?_)
   refine le_cond rfl (fun _ => ?_) (fun _ => ?_)
   ·exact le_ret (by first | rfl | simp only [EN, brokerref06_elements_out] <;> rfl)
   ·exact ih (IntKind.wrap .i64 (x6 + 1)) b0
  ·exact le_ret (by first | rfl | simp only [EN, brokerref06_elements_out] <;> rfl)
theorem brokerref06_elements_l8_ok : ∀ (fu : Nat) (x5 : Int) (b0 : api_Packet), Le (Option.map brokerref06_elements_out (brokerref06_elements_l8 fu x5 b0)) (Q37_8 x5 (api_Packet.enc b0)) := by
 intro fu
 induction fu with
 | zero => intros; exact le_none
 | succ fu ih =>
  intro x5 b0
  refine Le.trans ?_ (le_of_eq ((lab_realC Cr37).trans (T37_8 _ _ _ _ _ _  x5 b0)).symm)
  unfold brokerref06_elements_l8
  refine le_cond (by simp only [EN]) (fun _ => ?_) (fun _ => ?_)
  ·refine le_cond (by simp only [EN]) (fun _ => ?_) (fun _ => le_none)
   refine le_call (good := good) (fun y => ⟨y, rfl⟩) brokerref01_Wanted_inj (by first | (simp only [EN]; exact brokerref01_Wanted_ok (List.getD b0.Filters (Int.toNat x5) default)) | exact brokerref01_Wanted_ok (List.getD b0.Filters (Int.toNat x5) default)) (fun r1 _ => ?_)
   refine le_cond rfl (fun _ => ?_) (fun _ => ?_)
   ·exact le_ret (by first | rfl | simp only [EN, brokerref06_elements_out] <;> rfl)
   ·exact ih (IntKind.wrap .i64 (x5 + 1)) b0
  ·exact brokerref06_elements_l13_ok fuel 0 b0
theorem brokerref06_elements_l2_ok : ∀ (fu : Nat) (x3 : Int) (b0 : api_Packet), Le (Option.map brokerref06_elements_out (brokerref06_elements_l2 fu x3 b0)) (Q37_2 x3 (api_Packet.enc b0)) := by
 intro fu
 induction fu with
 | zero => intros; exact le_none
 | succ fu ih =>
  intro x3 b0
  refine Le.trans ?_ (le_of_eq ((lab_realC Cr37).trans (T37_2 _ _ _ _ _ _  x3 b0)).symm)
  unfold brokerref06_elements_l2
  refine le_cond (by simp only [EN]) (fun _ => ?_) (fun _ => ?_)
  ·refine le_cond (by simp only [EN]) (fun _ => ?_) (fun _ => le_none)
   refine le_call (good := good) (fun y => ⟨y, rfl⟩) brokerref06_Sub_inj (by first | (simp only [EN]; exact brokerref06_Sub_ok (List.getD b0.Subs (Int.toNat x3) default)) | exact brokerref06_Sub_ok (List.getD b0.Subs (Int.toNat x3) default)) (fun r0 _ => ?_)
   refine le_cond rfl (fun _ => ?_) (fun _ => ?_)
   ·exact le_ret (by first | rfl | simp only [EN, brokerref06_elements_out] <;> rfl)
   ·exact ih (IntKind.wrap .i64 (x3 + 1)) b0
  ·exact brokerref06_elements_l8_ok fuel 0 b0
theorem brokerref06_elements_ok (p0 : api_Packet) : Le (Option.map brokerref06_elements_out (brokerref06_elements p0)) (callW SE 37 [api_Packet.av p0] [] []) := by
 refine le_bodyC Cr37 rfl ?_
 refine Le.trans ?_ (le_of_eq (T37 _ _ _ _ _ _  p0).symm)
 unfold brokerref06_elements
 exact brokerref06_elements_l2_ok fuel 0 p0
end Te
end PX
