import Derived.Test.YtcfpheihkbkloaaGreatDoorTre0
set_option linter.unusedVariables false
set_option linter.unusedSimpArgs false
set_option linter.unusedVariables false
set_option linter.unusedSimpArgs false
set_option maxRecDepth 100000
noncomputable section
namespace PX
open Go
open Md
namespace Te
def C47 (Γ : Fun) (γ71 : Gm (Int)) (γ43 : Gm (Bool)) : CFun := updC (updC (bindC Γ) 71 packet_counted_out γ71) 43 packet_code_out γ43
def R47_5 (C : CFun) (Λ2 J : Lam) (a0 : (List (List D))) (a1 : Int) (a2 : Int) : Res := lab SE C Λ2 J 47 0 [1, 1, 0, 1, 0] (stoOf [(16, .d (.sl [.int .i64] a0)), (17, .d (.int .i64 a1)), (18, .d (.int .i64 a2))] [] [] [] [])
theorem T47 (Γ : Fun) (γ71 : Gm (Int)) (γ43 : Gm (Bool)) (Λ2 J : Lam) (p0 : api_Packet) : bodyC SE (C47 Γ γ71 γ43) Λ2 J 47 [api_Packet.av p0] [] [] =
 γ71 [.d (.int .i64 p0.ID), .d (.int .i64 (List.length (List.map (encI .i64) p0.Codes) : Int))] [] [] fun r0 =>
 cond (r0 != 0) (
 (some (.ret [.d (.int .i64 r0)] [] []))) (
 R47_5 (C47 Γ γ71 γ43) Λ2 J (List.map (encI .i64) p0.Codes) (List.length (List.map (encI .i64) p0.Codes) : Int) 0) := by kernel_rfl
theorem T47_5 (Γ : Fun) (γ71 : Gm (Int)) (γ43 : Gm (Bool)) (Λ2 J : Lam) (x16 : (List Int)) (x17 : Int) (x18 : Int) : labU SE (C47 Γ γ71 γ43) Λ2 J 47 0 [1, 1, 0, 1, 0] (stoOf [(16, .d (.sl [.int .i64] (List.map (encI .i64) x16))), (17, .d (.int .i64 x17)), (18, .d (.int .i64 x18))] [] [] [] []) =
 cond (decide (x18 < x17)) (
 cond (decide (0 ≤ x18) && decide (x18 < (List.length (List.map (encI .i64) x16) : Int))) (
  γ43 [.d (.int .i64 (dInt (cellAt (elemAt (List.map (encI .i64) x16) (Int.toNat x18)) 0)))] [] [] fun r1 =>
  cond (!r1) (
  (some (.ret [.d (.int .i64 1)] [] []))) (
  R47_5 (C47 Γ γ71 γ43) Λ2 J (List.map (encI .i64) x16) x17 (IntKind.wrap .i64 (x18 + 1)))) none) (
 (some (.ret [.d (.int .i64 0)] [] []))) := by kernel_rfl
abbrev X47 : CFun := C47 (callG SE good) (callT SE good 71 packet_counted_out) (callT SE good 43 packet_code_out)
theorem Cr47 : C47 (callG SE good) (callT SE good 71 packet_counted_out) (callT SE good 43 packet_code_out) = bindC (callG SE good) := by unfold C47; rw [updC_real (fun _ h => h), updC_real (fun _ h => h)]
noncomputable abbrev Q47_5 (a0 : (List (List D))) (a1 : Int) (a2 : Int) : Res := R47_5 X47 (lam2 SE (callG SE good) (SE.hl 47) (SE.hr 47)) (J0 SE X47) a0 a1 a2
theorem packet_codes_l5_ok : ∀ (fu : Nat) (x16 : (List Int)) (x17 : Int) (x18 : Int), Le (Option.map packet_codes_out (packet_codes_l5 fu x16 x17 x18)) (Q47_5 (List.map (encI .i64) x16) x17 x18) := by
 intro fu
 induction fu with
 | zero => intros; exact le_none
 | succ fu ih =>
  intro x16 x17 x18
  refine Le.trans ?_ (le_of_eq ((lab_realC Cr47).trans (T47_5 _ _ _ _ _  x16 x17 x18)).symm)
  unfold packet_codes_l5
  refine lC ?_ ?_
  ·refine le_cond (by simp only [EN]) (fun _ => ?_) (fun _ => le_none)
   refine le_call (good := good) eX packet_code_inj (by first | (simp only [EN]; exact packet_code_ok (List.getD x16 (Int.toNat x18) default)) | exact packet_code_ok (List.getD x16 (Int.toNat x18) default)) (fun r1 _ => ?_)
   refine lC ?_ ?_
   ·exact le_ret (by first | rfl | simp only [EN, packet_codes_out] <;> rfl)
   ·exact ih x16 x17 (IntKind.wrap .i64 (x18 + 1))
  ·exact le_ret (by first | rfl | simp only [EN, packet_codes_out] <;> rfl)
theorem packet_codes_ok (p0 : api_Packet) : Le (Option.map packet_codes_out (packet_codes p0)) (callW SE 47 [api_Packet.av p0] [] []) := by
 refine le_bodyC Cr47 rfl ?_
 refine Le.trans ?_ (le_of_eq (T47 _ _ _ _ _  p0).symm)
 unfold packet_codes
 refine le_call (good := good) eX packet_counted_inj (by first | (simp only [EN]; exact packet_counted_ok p0.ID (List.length p0.Codes : Int)) | exact packet_counted_ok p0.ID (List.length p0.Codes : Int)) (fun r0 _ => ?_)
 refine lC ?_ ?_
 ·exact le_ret (by first | rfl | simp only [EN, packet_codes_out] <;> rfl)
 ·first | (simp only [EN]; exact packet_codes_l5_ok fuel p0.Codes (List.length p0.Codes : Int) 0) | exact packet_codes_l5_ok fuel p0.Codes (List.length p0.Codes : Int) 0
def C48 (Γ : Fun) (γ71 : Gm (Int)) (γ72 : Gm (Bool × Bool)) : CFun := updC (updC (bindC Γ) 71 packet_counted_out γ71) 72 packet_wanted_out γ72
def R48_5 (C : CFun) (Λ2 J : Lam) (a0 : (List (List D))) (a1 : Int) (a2 : Int) : Res := lab SE C Λ2 J 48 0 [1, 1, 0, 1, 0] (stoOf [(18, .d (.sl [.str] a0)), (19, .d (.int .i64 a1)), (20, .d (.int .i64 a2))] [] [] [] [])
theorem T48 (Γ : Fun) (γ71 : Gm (Int)) (γ72 : Gm (Bool × Bool)) (Λ2 J : Lam) (p0 : api_Packet) : bodyC SE (C48 Γ γ71 γ72) Λ2 J 48 [api_Packet.av p0] [] [] =
 γ71 [.d (.int .i64 p0.ID), .d (.int .i64 (List.length (List.map encS p0.Filters) : Int))] [] [] fun r0 =>
 cond (r0 != 0) (
 (some (.ret [.d (.int .i64 r0)] [] []))) (
 R48_5 (C48 Γ γ71 γ72) Λ2 J (List.map encS p0.Filters) (List.length (List.map encS p0.Filters) : Int) 0) := by kernel_rfl
theorem T48_5 (Γ : Fun) (γ71 : Gm (Int)) (γ72 : Gm (Bool × Bool)) (Λ2 J : Lam) (x18 : (List Str)) (x19 : Int) (x20 : Int) : labU SE (C48 Γ γ71 γ72) Λ2 J 48 0 [1, 1, 0, 1, 0] (stoOf [(18, .d (.sl [.str] (List.map encS x18))), (19, .d (.int .i64 x19)), (20, .d (.int .i64 x20))] [] [] [] []) =
 cond (decide (x20 < x19)) (
 cond (decide (0 ≤ x20) && decide (x20 < (List.length (List.map encS x18) : Int))) (
  γ72 [.d (.str (dStr (cellAt (elemAt (List.map encS x18) (Int.toNat x20)) 0)))] [] [] fun r1 =>
  cond (!r1.1) (
  (some (.ret [.d (.int .i64 13)] [] []))) (
  R48_5 (C48 Γ γ71 γ72) Λ2 J (List.map encS x18) x19 (IntKind.wrap .i64 (x20 + 1)))) none) (
 (some (.ret [.d (.int .i64 0)] [] []))) := by kernel_rfl
abbrev X48 : CFun := C48 (callG SE good) (callT SE good 71 packet_counted_out) (callT SE good 72 packet_wanted_out)
theorem Cr48 : C48 (callG SE good) (callT SE good 71 packet_counted_out) (callT SE good 72 packet_wanted_out) = bindC (callG SE good) := by unfold C48; rw [updC_real (fun _ h => h), updC_real (fun _ h => h)]
noncomputable abbrev Q48_5 (a0 : (List (List D))) (a1 : Int) (a2 : Int) : Res := R48_5 X48 (lam2 SE (callG SE good) (SE.hl 48) (SE.hr 48)) (J0 SE X48) a0 a1 a2
theorem packet_unsubscribe_l5_ok : ∀ (fu : Nat) (x18 : (List Str)) (x19 : Int) (x20 : Int), Le (Option.map packet_unsubscribe_out (packet_unsubscribe_l5 fu x18 x19 x20)) (Q48_5 (List.map encS x18) x19 x20) := by
 intro fu
 induction fu with
 | zero => intros; exact le_none
 | succ fu ih =>
  intro x18 x19 x20
  refine Le.trans ?_ (le_of_eq ((lab_realC Cr48).trans (T48_5 _ _ _ _ _  x18 x19 x20)).symm)
  unfold packet_unsubscribe_l5
  refine lC ?_ ?_
  ·refine le_cond (by simp only [EN]) (fun _ => ?_) (fun _ => le_none)
   refine le_call (good := good) eX packet_wanted_inj (by first | (simp only [EN]; exact packet_wanted_ok (List.getD x18 (Int.toNat x20) default)) | exact packet_wanted_ok (List.getD x18 (Int.toNat x20) default)) (fun r1 _ => ?_)
   refine lC ?_ ?_
   ·exact le_ret (by first | rfl | simp only [EN, packet_unsubscribe_out] <;> rfl)
   ·exact ih x18 x19 (IntKind.wrap .i64 (x20 + 1))
  ·exact le_ret (by first | rfl | simp only [EN, packet_unsubscribe_out] <;> rfl)
theorem packet_unsubscribe_ok (p0 : api_Packet) : Le (Option.map packet_unsubscribe_out (packet_unsubscribe p0)) (callW SE 48 [api_Packet.av p0] [] []) := by
 refine le_bodyC Cr48 rfl ?_
 refine Le.trans ?_ (le_of_eq (T48 _ _ _ _ _  p0).symm)
 unfold packet_unsubscribe
 refine le_call (good := good) eX packet_counted_inj (by first | (simp only [EN]; exact packet_counted_ok p0.ID (List.length p0.Filters : Int)) | exact packet_counted_ok p0.ID (List.length p0.Filters : Int)) (fun r0 _ => ?_)
 refine lC ?_ ?_
 ·exact le_ret (by first | rfl | simp only [EN, packet_unsubscribe_out] <;> rfl)
 ·first | (simp only [EN]; exact packet_unsubscribe_l5_ok fuel p0.Filters (List.length p0.Filters : Int) 0) | exact packet_unsubscribe_l5_ok fuel p0.Filters (List.length p0.Filters : Int) 0
def C20 (Γ : Fun) (γ39 : Gm (Bool)) (γ41 : Gm (api_Packet)) (γ40 : Gm (Bool)) (γ42 : Gm (Int)) (γ43 : Gm (Bool)) (γ44 : Gm (Int)) (γ45 : Gm (Int)) (γ46 : Gm (Int)) (γ47 : Gm (Int)) (γ48 : Gm (Int)) : CFun := updC (updC (updC (updC (updC (updC (updC (updC (updC (updC (bindC Γ) 39 packet_is_out γ39) 41 packet_used_out γ41) 40 packet_Same_out γ40) 42 packet_connect_out γ42) 43 packet_code_out γ43) 44 packet_publish_out γ44) 45 packet_ident_out γ45) 46 packet_subscribe_out γ46) 47 packet_codes_out γ47) 48 packet_unsubscribe_out γ48
theorem T20 (Γ : Fun) (γ39 : Gm (Bool)) (γ41 : Gm (api_Packet)) (γ40 : Gm (Bool)) (γ42 : Gm (Int)) (γ43 : Gm (Bool)) (γ44 : Gm (Int)) (γ45 : Gm (Int)) (γ46 : Gm (Int)) (γ47 : Gm (Int)) (γ48 : Gm (Int)) (Λ2 J : Lam) (p0 : api_Packet) : bodyC SE (C20 Γ γ39 γ41 γ40 γ42 γ43 γ44 γ45 γ46 γ47 γ48) Λ2 J 20 [api_Packet.av p0] [] [] =
 γ39 [.d (.int .i64 p0.Kind), .d (.int .i64 1), .d (.int .i64 14)] [] [] fun r0 =>
 cond (!r0) (
 (some (.ret [.d (.int .i64 10)] [] []))) (
 γ41 [api_Packet.av p0] [] [] fun r1 =>
 γ40 [api_Packet.av p0, api_Packet.av r1] [] [] fun r2 =>
 cond (!r2) (
 (some (.ret [.d (.int .i64 28)] [] []))) (
 cond (p0.Kind == 1) (
 γ42 [api_Packet.av p0] [] [] fun r3 =>
 (some (.ret [.d (.int .i64 r3)] [] []))) (
 cond (p0.Kind == 2) (
 γ43 [.d (.int .i64 p0.Code)] [] [] fun r4 =>
 cond (!r4) (
  (some (.ret [.d (.int .i64 1)] [] []))) (
 cond p0.Present (
  cond (p0.Code != 0) (
  (some (.ret [.d (.int .i64 28)] [] []))) (
  (some (.ret [.d (.int .i64 0)] [] [])))) (
 (some (.ret [.d (.int .i64 0)] [] []))))) (
 cond (p0.Kind == 14) (
 γ43 [.d (.int .i64 p0.Code)] [] [] fun r5 =>
 cond (!r5) (
  (some (.ret [.d (.int .i64 1)] [] []))) (
 cond p0.Present (
  cond (p0.Code != 0) (
  (some (.ret [.d (.int .i64 28)] [] []))) (
  (some (.ret [.d (.int .i64 0)] [] [])))) (
 (some (.ret [.d (.int .i64 0)] [] []))))) (
 cond (p0.Kind == 3) (
 γ44 [api_Packet.av p0] [] [] fun r6 =>
 (some (.ret [.d (.int .i64 r6)] [] []))) (
 cond (p0.Kind == 4) (
 γ45 [.d (.int .i64 p0.ID)] [] [] fun r7 =>
 (some (.ret [.d (.int .i64 r7)] [] []))) (
 cond (p0.Kind == 5) (
 γ45 [.d (.int .i64 p0.ID)] [] [] fun r8 =>
 (some (.ret [.d (.int .i64 r8)] [] []))) (
 cond (p0.Kind == 6) (
 γ45 [.d (.int .i64 p0.ID)] [] [] fun r9 =>
 (some (.ret [.d (.int .i64 r9)] [] []))) (
 cond (p0.Kind == 7) (
 γ45 [.d (.int .i64 p0.ID)] [] [] fun r10 =>
 (some (.ret [.d (.int .i64 r10)] [] []))) (
 cond (p0.Kind == 8) (
 γ46 [api_Packet.av p0] [] [] fun r11 =>
 (some (.ret [.d (.int .i64 r11)] [] []))) (
 cond (p0.Kind == 9) (
 γ47 [api_Packet.av p0] [] [] fun r12 =>
 (some (.ret [.d (.int .i64 r12)] [] []))) (
 cond (p0.Kind == 11) (
 γ47 [api_Packet.av p0] [] [] fun r13 =>
 (some (.ret [.d (.int .i64 r13)] [] []))) (
 cond (p0.Kind == 10) (
 γ48 [api_Packet.av p0] [] [] fun r14 =>
 (some (.ret [.d (.int .i64 r14)] [] []))) (
 (some (.ret [.d (.int .i64 0)] [] [])))))))))))))))) := by kernel_rfl
abbrev X20 : CFun := C20 (callG SE good) (callT SE good 39 packet_is_out) (callT SE good 41 packet_used_out) (callT SE good 40 packet_Same_out) (callT SE good 42 packet_connect_out) (callT SE good 43 packet_code_out) (callT SE good 44 packet_publish_out) (callT SE good 45 packet_ident_out) (callT SE good 46 packet_subscribe_out) (callT SE good 47 packet_codes_out) (callT SE good 48 packet_unsubscribe_out)
theorem Cr20 : C20 (callG SE good) (callT SE good 39 packet_is_out) (callT SE good 41 packet_used_out) (callT SE good 40 packet_Same_out) (callT SE good 42 packet_connect_out) (callT SE good 43 packet_code_out) (callT SE good 44 packet_publish_out) (callT SE good 45 packet_ident_out) (callT SE good 46 packet_subscribe_out) (callT SE good 47 packet_codes_out) (callT SE good 48 packet_unsubscribe_out) = bindC (callG SE good) := by unfold C20; rw [updC_real (fun _ h => h), updC_real (fun _ h => h), updC_real (fun _ h => h), updC_real (fun _ h => h), updC_real (fun _ h => h), updC_real (fun _ h => h), updC_real (fun _ h => h), updC_real (fun _ h => h), updC_real (fun _ h => h), updC_real (fun _ h => h)]
theorem packet_Check_ok (p0 : api_Packet) : Le (Option.map packet_Check_out (packet_Check p0)) (callW SE 20 [api_Packet.av p0] [] []) := by
 refine le_bodyC Cr20 rfl ?_
 refine Le.trans ?_ (le_of_eq (T20 _ _ _ _ _ _ _ _ _ _ _ _ _  p0).symm)
 unfold packet_Check
 refine le_call (good := good) eX packet_is_inj (packet_is_ok p0.Kind 1 14) (fun r0 _ => ?_)
 refine lC ?_ ?_
 ·exact le_ret (by first | rfl | simp only [EN, packet_Check_out] <;> rfl)
 ·refine le_call (good := good) eX packet_used_inj (packet_used_ok p0) (fun r1 _ => ?_)
  refine le_call (good := good) eX packet_Same_inj (packet_Same_ok p0 r1) (fun r2 _ => ?_)
  refine lC ?_ ?_
  ·exact le_ret (by first | rfl | simp only [EN, packet_Check_out] <;> rfl)
  ·refine lC ?_ ?_
   ·refine le_call (good := good) eX packet_connect_inj (packet_connect_ok p0) (fun r3 _ => ?_)
    exact le_ret (by first | rfl | simp only [EN, packet_Check_out] <;> rfl)
   ·refine lC ?_ ?_
    ·refine le_call (good := good) eX packet_code_inj (packet_code_ok p0.Code) (fun r4 _ => ?_)
     refine lC ?_ ?_
     ·exact le_ret (by first | rfl | simp only [EN, packet_Check_out] <;> rfl)
     ·refine lC ?_ ?_
      ·refine lC ?_ ?_
       ·exact le_ret (by first | rfl | simp only [EN, packet_Check_out] <;> rfl)
       ·exact le_ret (by first | rfl | simp only [EN, packet_Check_out] <;> rfl)
      ·exact le_ret (by first | rfl | simp only [EN, packet_Check_out] <;> rfl)
    ·refine lC ?_ ?_
     ·refine le_call (good := good) eX packet_code_inj (packet_code_ok p0.Code) (fun r5 _ => ?_)
      refine lC ?_ ?_
      ·exact le_ret (by first | rfl | simp only [EN, packet_Check_out] <;> rfl)
      ·refine lC ?_ ?_
       ·refine lC ?_ ?_
        ·exact le_ret (by first | rfl | simp only [EN, packet_Check_out] <;> rfl)
        ·exact le_ret (by first | rfl | simp only [EN, packet_Check_out] <;> rfl)
       ·exact le_ret (by first | rfl | simp only [EN, packet_Check_out] <;> rfl)
     ·refine lC ?_ ?_
      ·refine le_call (good := good) eX packet_publish_inj (packet_publish_ok p0) (fun r6 _ => ?_)
       exact le_ret (by first | rfl | simp only [EN, packet_Check_out] <;> rfl)
      ·refine lC ?_ ?_
       ·refine le_call (good := good) eX packet_ident_inj (packet_ident_ok p0.ID) (fun r7 _ => ?_)
        exact le_ret (by first | rfl | simp only [EN, packet_Check_out] <;> rfl)
       ·refine lC ?_ ?_
        ·refine le_call (good := good) eX packet_ident_inj (packet_ident_ok p0.ID) (fun r8 _ => ?_)
         exact le_ret (by first | rfl | simp only [EN, packet_Check_out] <;> rfl)
        ·refine lC ?_ ?_
         ·refine le_call (good := good) eX packet_ident_inj (packet_ident_ok p0.ID) (fun r9 _ => ?_)
          exact le_ret (by first | rfl | simp only [EN, packet_Check_out] <;> rfl)
         ·refine lC ?_ ?_
          ·refine le_call (good := good) eX packet_ident_inj (packet_ident_ok p0.ID) (fun r10 _ => ?_)
           exact le_ret (by first | rfl | simp only [EN, packet_Check_out] <;> rfl)
          ·refine lC ?_ ?_
           ·refine le_call (good := good) eX packet_subscribe_inj (packet_subscribe_ok p0) (fun r11 _ => ?_)
            exact le_ret (by first | rfl | simp only [EN, packet_Check_out] <;> rfl)
           ·refine lC ?_ ?_
            ·refine le_call (good := good) eX packet_codes_inj (packet_codes_ok p0) (fun r12 _ => ?_)
             exact le_ret (by first | rfl | simp only [EN, packet_Check_out] <;> rfl)
            ·refine lC ?_ ?_
             ·refine le_call (good := good) eX packet_codes_inj (packet_codes_ok p0) (fun r13 _ => ?_)
              exact le_ret (by first | rfl | simp only [EN, packet_Check_out] <;> rfl)
             ·refine lC ?_ ?_
              ·refine le_call (good := good) eX packet_unsubscribe_inj (packet_unsubscribe_ok p0) (fun r14 _ => ?_)
               exact le_ret (by first | rfl | simp only [EN, packet_Check_out] <;> rfl)
              ·exact le_ret (by first | rfl | simp only [EN, packet_Check_out] <;> rfl)
def C83 (Γ : Fun)  : CFun := bindC Γ
theorem T83 (Γ : Fun)  (Λ2 J : Lam) (p0 : Int) : bodyC SE (C83 Γ) Λ2 J 83 [.d (.int .i64 p0)] [] [] =
 (some (.ret [.d (.bool (p0 != p0))] [] [])) := by kernel_rfl
abbrev X83 : CFun := C83 (callG SE good)
theorem Cr83 : C83 (callG SE good) = bindC (callG SE good) := by unfold C83; rfl
theorem cmp_isNaN_int__ok (p0 : Int) : Le (Option.map cmp_isNaN_int__out (cmp_isNaN_int_ p0)) (callW SE 83 [.d (.int .i64 p0)] [] []) := by
 refine le_bodyC Cr83 rfl ?_
 refine Le.trans ?_ (le_of_eq (T83 _ _ _  p0).symm)
 unfold cmp_isNaN_int_
 exact le_ret (by first | rfl | simp only [EN, cmp_isNaN_int__out] <;> rfl)
def C62 (Γ : Fun) (γ83 : Gm (Bool)) : CFun := updC (bindC Γ) 83 cmp_isNaN_int__out γ83
theorem T62 (Γ : Fun) (γ83 : Gm (Bool)) (Λ2 J : Lam) (p0 : Int) (p1 : Int) : bodyC SE (C62 Γ γ83) Λ2 J 62 [.d (.int .i64 p0), .d (.int .i64 p1)] [] [] =
 γ83 [.d (.int .i64 p0)] [] [] fun r0 =>
 cond r0 (
 γ83 [.d (.int .i64 p1)] [] [] fun r1 =>
 cond (!r1) (
  (some (.ret [.d (.bool true)] [] []))) (
 (some (.ret [.d (.bool (decide (p0 < p1)))] [] [])))) (
 (some (.ret [.d (.bool (decide (p0 < p1)))] [] []))) := by kernel_rfl
abbrev X62 : CFun := C62 (callG SE good) (callT SE good 83 cmp_isNaN_int__out)
theorem Cr62 : C62 (callG SE good) (callT SE good 83 cmp_isNaN_int__out) = bindC (callG SE good) := by unfold C62; rw [updC_real (fun _ h => h)]
theorem cmp_Less_int__ok (p0 : Int) (p1 : Int) : Le (Option.map cmp_Less_int__out (cmp_Less_int_ p0 p1)) (callW SE 62 [.d (.int .i64 p0), .d (.int .i64 p1)] [] []) := by
 refine le_bodyC Cr62 rfl ?_
 refine Le.trans ?_ (le_of_eq (T62 _ _ _ _  p0 p1).symm)
 unfold cmp_Less_int_
 refine le_call (good := good) eX cmp_isNaN_int__inj (cmp_isNaN_int__ok p0) (fun r0 _ => ?_)
 refine lC ?_ ?_
 ·refine le_call (good := good) eX cmp_isNaN_int__inj (cmp_isNaN_int__ok p1) (fun r1 _ => ?_)
  refine lC ?_ ?_
  ·exact le_ret (by first | rfl | simp only [EN, cmp_Less_int__out] <;> rfl)
  ·exact le_ret (by first | rfl | simp only [EN, cmp_Less_int__out] <;> rfl)
 ·exact le_ret (by first | rfl | simp only [EN, cmp_Less_int__out] <;> rfl)
def C63 (Γ : Fun)  : CFun := bindC Γ
theorem T63 (Γ : Fun)  (Λ2 J : Lam) (p0 : Int) : bodyC SE (C63 Γ) Λ2 J 63 [.d (.int .i64 p0)] [] [] =
 (some (.ret [.d (.bool (p0 != p0))] [] [])) := by kernel_rfl
abbrev X63 : CFun := C63 (callG SE good)
theorem Cr63 : C63 (callG SE good) = bindC (callG SE good) := by unfold C63; rfl
theorem slices_isNaN_int__ok (p0 : Int) : Le (Option.map slices_isNaN_int__out (slices_isNaN_int_ p0)) (callW SE 63 [.d (.int .i64 p0)] [] []) := by
 refine le_bodyC Cr63 rfl ?_
 refine Le.trans ?_ (le_of_eq (T63 _ _ _  p0).symm)
 unfold slices_isNaN_int_
 exact le_ret (by first | rfl | simp only [EN, slices_isNaN_int__out] <;> rfl)
def C38 (Γ : Fun) (γ62 : Gm (Bool)) (γ63 : Gm (Bool)) : CFun := updC (updC (bindC Γ) 62 cmp_Less_int__out γ62) 63 slices_isNaN_int__out γ63
def R38_3 (C : CFun) (Λ2 J : Lam) (a0 : (List (List D))) (a1 : Int) (a2 : Int) (a3 : Int) (a4 : Int) : Res := lab SE C Λ2 J 38 0 [1, 1, 1, 0, 0] (stoOf [(0, .d (.sl [.int .i64] a0)), (1, .d (.int .i64 a1)), (6, .d (.int .i64 a2)), (7, .d (.int .i64 a3)), (8, .d (.int .i64 a4))] [] [] [] [])
theorem T38 (Γ : Fun) (γ62 : Gm (Bool)) (γ63 : Gm (Bool)) (Λ2 J : Lam) (p0 : (List Int)) (p1 : Int) : bodyC SE (C38 Γ γ62 γ63) Λ2 J 38 [.d (.sl [.int .i64] (List.map (encI .i64) p0)), .d (.int .i64 p1)] [] [] =
 R38_3 (C38 Γ γ62 γ63) Λ2 J (List.map (encI .i64) p0) p1 (List.length (List.map (encI .i64) p0) : Int) 0 (List.length (List.map (encI .i64) p0) : Int) := by kernel_rfl
theorem T38_3 (Γ : Fun) (γ62 : Gm (Bool)) (γ63 : Gm (Bool)) (Λ2 J : Lam) (x0 : (List Int)) (x1 : Int) (x6 : Int) (x7 : Int) (x8 : Int) : labU SE (C38 Γ γ62 γ63) Λ2 J 38 0 [1, 1, 1, 0, 0] (stoOf [(0, .d (.sl [.int .i64] (List.map (encI .i64) x0))), (1, .d (.int .i64 x1)), (6, .d (.int .i64 x6)), (7, .d (.int .i64 x7)), (8, .d (.int .i64 x8))] [] [] [] []) =
 cond (decide (x7 < x8)) (
 cond (decide (0 ≤ (IntKind.wrap .i64 (shr .u64 (IntKind.wrap .u64 (IntKind.wrap .i64 (x7 + x8))) 1))) && decide ((IntKind.wrap .i64 (shr .u64 (IntKind.wrap .u64 (IntKind.wrap .i64 (x7 + x8))) 1)) < (List.length (List.map (encI .i64) x0) : Int))) (
  γ62 [.d (.int .i64 (dInt (cellAt (elemAt (List.map (encI .i64) x0) (Int.toNat (IntKind.wrap .i64 (shr .u64 (IntKind.wrap .u64 (IntKind.wrap .i64 (x7 + x8))) 1)))) 0))), .d (.int .i64 x1)] [] [] fun r0 =>
  cond r0 (
  R38_3 (C38 Γ γ62 γ63) Λ2 J (List.map (encI .i64) x0) x1 x6 (IntKind.wrap .i64 ((IntKind.wrap .i64 (shr .u64 (IntKind.wrap .u64 (IntKind.wrap .i64 (x7 + x8))) 1)) + 1)) x8) (
  R38_3 (C38 Γ γ62 γ63) Λ2 J (List.map (encI .i64) x0) x1 x6 x7 (IntKind.wrap .i64 (shr .u64 (IntKind.wrap .u64 (IntKind.wrap .i64 (x7 + x8))) 1)))) none) (
 cond (decide (x7 < x6)) (
 cond (decide (0 ≤ x7) && decide (x7 < (List.length (List.map (encI .i64) x0) : Int))) (
  cond ((dInt (cellAt (elemAt (List.map (encI .i64) x0) (Int.toNat x7)) 0)) == x1) (
  (some (.ret [.d (.int .i64 x7), .d (.bool true)] [] []))) (
  cond (decide (0 ≤ x7) && decide (x7 < (List.length (List.map (encI .i64) x0) : Int))) (
  γ63 [.d (.int .i64 (dInt (cellAt (elemAt (List.map (encI .i64) x0) (Int.toNat x7)) 0)))] [] [] fun r1 =>
  cond r1 (
   γ63 [.d (.int .i64 x1)] [] [] fun r2 =>
   (some (.ret [.d (.int .i64 x7), .d (.bool r2)] [] []))) (
  (some (.ret [.d (.int .i64 x7), .d (.bool false)] [] [])))) none)) none) (
 (some (.ret [.d (.int .i64 x7), .d (.bool false)] [] [])))) := by kernel_rfl
abbrev X38 : CFun := C38 (callG SE good) (callT SE good 62 cmp_Less_int__out) (callT SE good 63 slices_isNaN_int__out)
theorem Cr38 : C38 (callG SE good) (callT SE good 62 cmp_Less_int__out) (callT SE good 63 slices_isNaN_int__out) = bindC (callG SE good) := by unfold C38; rw [updC_real (fun _ h => h), updC_real (fun _ h => h)]
noncomputable abbrev Q38_3 (a0 : (List (List D))) (a1 : Int) (a2 : Int) (a3 : Int) (a4 : Int) : Res := R38_3 X38 (lam2 SE (callG SE good) (SE.hl 38) (SE.hr 38)) (J0 SE X38) a0 a1 a2 a3 a4
theorem slices_BinarySearch___int_int__l3_ok : ∀ (fu : Nat) (x0 : (List Int)) (x1 : Int) (x6 : Int) (x7 : Int) (x8 : Int), Le (Option.map slices_BinarySearch___int_int__out (slices_BinarySearch___int_int__l3 fu x0 x1 x6 x7 x8)) (Q38_3 (List.map (encI .i64) x0) x1 x6 x7 x8) := by
 intro fu
 induction fu with
 | zero => intros; exact le_none
 | succ fu ih =>
  intro x0 x1 x6 x7 x8
  refine Le.trans ?_ (le_of_eq ((lab_realC Cr38).trans (T38_3 _ _ _ _ _  x0 x1 x6 x7 x8)).symm)
  unfold slices_BinarySearch___int_int__l3
  refine lC ?_ ?_
  ·refine le_cond (by simp only [EN]) (fun _ => ?_) (fun _ => le_none)
   refine le_call (good := good) eX cmp_Less_int__inj (by first | (simp only [EN]; exact cmp_Less_int__ok (List.getD x0 (Int.toNat (IntKind.wrap .i64 (shr .u64 (IntKind.wrap .u64 (IntKind.wrap .i64 (x7 + x8))) 1))) default) x1) | exact cmp_Less_int__ok (List.getD x0 (Int.toNat (IntKind.wrap .i64 (shr .u64 (IntKind.wrap .u64 (IntKind.wrap .i64 (x7 + x8))) 1))) default) x1) (fun r0 _ => ?_)
   refine lC ?_ ?_
   ·exact ih x0 x1 x6 (IntKind.wrap .i64 ((IntKind.wrap .i64 (shr .u64 (IntKind.wrap .u64 (IntKind.wrap .i64 (x7 + x8))) 1)) + 1)) x8
   ·exact ih x0 x1 x6 x7 (IntKind.wrap .i64 (shr .u64 (IntKind.wrap .u64 (IntKind.wrap .i64 (x7 + x8))) 1))
  ·refine lC ?_ ?_
   ·refine le_cond (by simp only [EN]) (fun _ => ?_) (fun _ => le_none)
    refine le_cond (by simp only [EN]) (fun _ => ?_) (fun _ => ?_)
    ·exact le_ret (by first | rfl | simp only [EN, slices_BinarySearch___int_int__out] <;> rfl)
    ·refine le_cond (by simp only [EN]) (fun _ => ?_) (fun _ => le_none)
     refine le_call (good := good) eX slices_isNaN_int__inj (by first | (simp only [EN]; exact slices_isNaN_int__ok (List.getD x0 (Int.toNat x7) default)) | exact slices_isNaN_int__ok (List.getD x0 (Int.toNat x7) default)) (fun r1 _ => ?_)
     refine lC ?_ ?_
     ·refine le_call (good := good) eX slices_isNaN_int__inj (slices_isNaN_int__ok x1) (fun r2 _ => ?_)
      exact le_ret (by first | rfl | simp only [EN, slices_BinarySearch___int_int__out] <;> rfl)
     ·exact le_ret (by first | rfl | simp only [EN, slices_BinarySearch___int_int__out] <;> rfl)
   ·exact le_ret (by first | rfl | simp only [EN, slices_BinarySearch___int_int__out] <;> rfl)
theorem slices_BinarySearch___int_int__ok (p0 : (List Int)) (p1 : Int) : Le (Option.map slices_BinarySearch___int_int__out (slices_BinarySearch___int_int_ p0 p1)) (callW SE 38 [.d (.sl [.int .i64] (List.map (encI .i64) p0)), .d (.int .i64 p1)] [] []) := by
 refine le_bodyC Cr38 rfl ?_
 refine Le.trans ?_ (le_of_eq (T38 _ _ _ _ _  p0 p1).symm)
 unfold slices_BinarySearch___int_int_
 first | (simp only [EN]; exact slices_BinarySearch___int_int__l3_ok fuel p0 p1 (List.length p0 : Int) 0 (List.length p0 : Int)) | exact slices_BinarySearch___int_int__l3_ok fuel p0 p1 (List.length p0 : Int) 0 (List.length p0 : Int)
def C19 (Γ : Fun) (γ38 : Gm (Int × Bool)) : CFun := updC (bindC Γ) 38 slices_BinarySearch___int_int__out γ38
theorem T19 (Γ : Fun) (γ38 : Gm (Int × Bool)) (Λ2 J : Lam) (p0 : api_Inbox) (p1 : Int) : bodyC SE (C19 Γ γ38) Λ2 J 19 [api_Inbox.av p0, .d (.int .i64 p1)] [] [] =
 γ38 [.d (.sl [.int .i64] (List.map (encI .i64) p0.IDs)), .d (.int .i64 p1)] [] [] fun r0 =>
 (some (.ret [.d (.bool r0.2)] [] [])) := by kernel_rfl
abbrev X19 : CFun := C19 (callG SE good) (callT SE good 38 slices_BinarySearch___int_int__out)
theorem Cr19 : C19 (callG SE good) (callT SE good 38 slices_BinarySearch___int_int__out) = bindC (callG SE good) := by unfold C19; rw [updC_real (fun _ h => h)]
theorem inbound_Has_ok (p0 : api_Inbox) (p1 : Int) : Le (Option.map inbound_Has_out (inbound_Has p0 p1)) (callW SE 19 [api_Inbox.av p0, .d (.int .i64 p1)] [] []) := by
 refine le_bodyC Cr19 rfl ?_
 refine Le.trans ?_ (le_of_eq (T19 _ _ _ _  p0 p1).symm)
 unfold inbound_Has
 refine le_call (good := good) eX slices_BinarySearch___int_int__inj (slices_BinarySearch___int_int__ok p0.IDs p1) (fun r0 _ => ?_)
 exact le_ret (by first | rfl | simp only [EN, inbound_Has_out] <;> rfl)
def C21 (Γ : Fun)  : CFun := bindC Γ
theorem T21 (Γ : Fun)  (Λ2 J : Lam) (p0 : (List Int)) : bodyC SE (C21 Γ) Λ2 J 21 [.d (.sl [.int .i64] (List.map (encI .i64) p0))] [] [] =
 cond (List.isEmpty (List.map (encI .i64) p0)) (
 bothR (
  (some (.ret [.row 0] [] [⟨[.int .i64], 3, 8, []⟩]))) (
  cond (decide ((List.length (List.map (encI .i64) []) + List.length (List.map (encI .i64) p0)) * 8 ≤ 140737488355328)) (
  (some (.ret [.row 0] [] [⟨[.int .i64], 3, 8, ((List.map (encI .i64) []) ++ (List.map (encI .i64) p0))⟩]))) none)) (
 cond (decide ((List.length (List.map (encI .i64) []) + List.length (List.map (encI .i64) p0)) * 8 ≤ 140737488355328)) (
 (some (.ret [.row 0] [] [⟨[.int .i64], 3, 8, ((List.map (encI .i64) []) ++ (List.map (encI .i64) p0))⟩]))) none) := by kernel_rfl
abbrev X21 : CFun := C21 (callG SE good)
theorem Cr21 : C21 (callG SE good) = bindC (callG SE good) := by unfold C21; rfl
theorem slices_Clone___int_int__ok (p0 : (List Int)) : Le (Option.map slices_Clone___int_int__out (slices_Clone___int_int_ p0)) (callW SE 21 [.d (.sl [.int .i64] (List.map (encI .i64) p0))] [] []) := by
 refine le_bodyC Cr21 rfl ?_
 refine Le.trans ?_ (le_of_eq (T21 _ _ _  p0).symm)
 unfold slices_Clone___int_int_
 refine le_cond (by simp only [EN]) (fun _ => ?_) (fun _ => ?_)
 ·refine le_both ?_ ?_
  ·exact le_ret (by first | rfl | simp only [EN, slices_Clone___int_int__out] <;> rfl)
  ·refine le_cond (by simp only [EN]) (fun _ => ?_) (fun _ => le_none)
   exact le_ret (by first | rfl | simp only [EN, slices_Clone___int_int__out] <;> rfl)
 ·refine le_cond (by simp only [EN]) (fun _ => ?_) (fun _ => le_none)
  exact le_ret (by first | rfl | simp only [EN, slices_Clone___int_int__out] <;> rfl)
theorem slices_Insert___int_int__ok (p0 : (List Int)) (p1 : Int) (p2 : (List Int)) : Le (Option.map slices_Insert___int_int__out (slices_Insert___int_int_ p0 p1 p2)) (callW SE 49 [.row 2000000000, .d (.int .i64 p1), .row 2000000001] [] [⟨[.int .i64], 3, 8, (List.map (encI .i64) p0)⟩, ⟨[.int .i64], 3, 8, (List.map (encI .i64) p2)⟩]) := le_insert (f := 49) (enc := (encI .i64)) rfl rfl p0 p1 p2
def C22 (Γ : Fun) (γ38 : Gm (Int × Bool)) (γ21 : Gm ((List Int))) (γ49 : Gm ((List Int))) : CFun := updC (updC (updC (bindC Γ) 38 slices_BinarySearch___int_int__out γ38) 21 slices_Clone___int_int__out γ21) 49 slices_Insert___int_int__out γ49
theorem T22 (Γ : Fun) (γ38 : Gm (Int × Bool)) (γ21 : Gm ((List Int))) (γ49 : Gm ((List Int))) (Λ2 J : Lam) (p0 : (List Int)) (p1 : Int) : bodyC SE (C22 Γ γ38 γ21 γ49) Λ2 J 22 [.d (.sl [.int .i64] (List.map (encI .i64) p0)), .d (.int .i64 p1)] [] [] =
 γ38 [.d (.sl [.int .i64] (List.map (encI .i64) p0)), .d (.int .i64 p1)] [] [] fun r0 =>
 cond r0.2 (
 γ21 [.d (.sl [.int .i64] (List.map (encI .i64) p0))] [] [] fun r1 =>
 (some (.ret [.row 0] [] [⟨[.int .i64], 3, 8, (List.map (encI .i64) r1)⟩]))) (
 γ21 [.d (.sl [.int .i64] (List.map (encI .i64) p0))] [] [] fun r2 =>
 γ49 [.row 2000000000, .d (.int .i64 r0.1), .row 2000000001] [] [⟨[.int .i64], 3, 8, (List.map (encI .i64) r2)⟩, ⟨[.int .i64], 3, 8, (List.map (encI .i64) [p1])⟩] fun r3 =>
 (some (.ret [.row 0] [] [⟨[.int .i64], 3, 8, (List.map (encI .i64) r3)⟩]))) := by kernel_rfl
abbrev X22 : CFun := C22 (callG SE good) (callT SE good 38 slices_BinarySearch___int_int__out) (callT SE good 21 slices_Clone___int_int__out) (callT SE good 49 slices_Insert___int_int__out)
theorem Cr22 : C22 (callG SE good) (callT SE good 38 slices_BinarySearch___int_int__out) (callT SE good 21 slices_Clone___int_int__out) (callT SE good 49 slices_Insert___int_int__out) = bindC (callG SE good) := by unfold C22; rw [updC_real (fun _ h => h), updC_real (fun _ h => h), updC_real (fun _ h => h)]
theorem inbound_insert_int__ok (p0 : (List Int)) (p1 : Int) : Le (Option.map inbound_insert_int__out (inbound_insert_int_ p0 p1)) (callW SE 22 [.d (.sl [.int .i64] (List.map (encI .i64) p0)), .d (.int .i64 p1)] [] []) := by
 refine le_bodyC Cr22 rfl ?_
 refine Le.trans ?_ (le_of_eq (T22 _ _ _ _ _ _  p0 p1).symm)
 unfold inbound_insert_int_
 refine le_call (good := good) eX slices_BinarySearch___int_int__inj (slices_BinarySearch___int_int__ok p0 p1) (fun r0 _ => ?_)
 refine lC ?_ ?_
 ·refine le_call (good := good) eX slices_Clone___int_int__inj (slices_Clone___int_int__ok p0) (fun r1 _ => ?_)
  exact le_ret (by first | rfl | simp only [EN, inbound_insert_int__out] <;> rfl)
 ·refine le_call (good := good) eX slices_Clone___int_int__inj (slices_Clone___int_int__ok p0) (fun r2 _ => ?_)
  refine le_call (good := good) eX slices_Insert___int_int__inj (slices_Insert___int_int__ok r2 r0.1 [p1]) (fun r3 _ => ?_)
  exact le_ret (by first | rfl | simp only [EN, inbound_insert_int__out] <;> rfl)
def C23 (Γ : Fun)  : CFun := bindC Γ
theorem T23 (Γ : Fun)  (Λ2 J : Lam) (p0 : api_Packet) : bodyC SE (C23 Γ) Λ2 J 23 [api_Packet.av p0] [] [] =
 cond (p0.Kind == 3) (
 cond (p0.Message.Level == 1) (
  (some (.ret [.agg [.d (.int .i64 4), .d (.int .i64 p0.ID), .d (.bool false), .d (.str ([] : Str)), .d (.str ([] : Str)), .d (.int .i64 0), .d (.bool false), .d (.int .i64 0), .d (.int .i64 0), .d (.str ([] : Str)), .d (.int .i64 0), .d (.sl api_Prop.ks (List.map api_Prop.enc [])), .d (.str ([] : Str)), .d (.str ([] : Str)), .d (.bool false), .d (.int .i64 0), .d (.int .i64 0), .d (.int .i64 0), .d (.bool false), .d (.int .i64 0), .d (.str ([] : Str)), .d (.str ([] : Str)), .d (.int .i64 0), .d (.bool false), .d (.int .i64 0), .d (.int .i64 0), .d (.str ([] : Str)), .d (.int .i64 0), .d (.sl api_Prop.ks (List.map api_Prop.enc [])), .d (.bool false), .d (.int .i64 0), .d (.sl api_Sub.ks (List.map api_Sub.enc [])), .d (.sl [.str] (List.map encS [])), .d (.sl [.int .i64] (List.map (encI .i64) []))], .d (.bool true)] [] []))) (
 cond (p0.Kind == 3) (
  cond (p0.Message.Level == 2) (
  (some (.ret [.agg [.d (.int .i64 5), .d (.int .i64 p0.ID), .d (.bool false), .d (.str ([] : Str)), .d (.str ([] : Str)), .d (.int .i64 0), .d (.bool false), .d (.int .i64 0), .d (.int .i64 0), .d (.str ([] : Str)), .d (.int .i64 0), .d (.sl api_Prop.ks (List.map api_Prop.enc [])), .d (.str ([] : Str)), .d (.str ([] : Str)), .d (.bool false), .d (.int .i64 0), .d (.int .i64 0), .d (.int .i64 0), .d (.bool false), .d (.int .i64 0), .d (.str ([] : Str)), .d (.str ([] : Str)), .d (.int .i64 0), .d (.bool false), .d (.int .i64 0), .d (.int .i64 0), .d (.str ([] : Str)), .d (.int .i64 0), .d (.sl api_Prop.ks (List.map api_Prop.enc [])), .d (.bool false), .d (.int .i64 0), .d (.sl api_Sub.ks (List.map api_Sub.enc [])), .d (.sl [.str] (List.map encS [])), .d (.sl [.int .i64] (List.map (encI .i64) []))], .d (.bool true)] [] []))) (
  cond (p0.Kind == 5) (
  (some (.ret [.agg [.d (.int .i64 6), .d (.int .i64 p0.ID), .d (.bool false), .d (.str ([] : Str)), .d (.str ([] : Str)), .d (.int .i64 0), .d (.bool false), .d (.int .i64 0), .d (.int .i64 0), .d (.str ([] : Str)), .d (.int .i64 0), .d (.sl api_Prop.ks (List.map api_Prop.enc [])), .d (.str ([] : Str)), .d (.str ([] : Str)), .d (.bool false), .d (.int .i64 0), .d (.int .i64 0), .d (.int .i64 0), .d (.bool false), .d (.int .i64 0), .d (.str ([] : Str)), .d (.str ([] : Str)), .d (.int .i64 0), .d (.bool false), .d (.int .i64 0), .d (.int .i64 0), .d (.str ([] : Str)), .d (.int .i64 0), .d (.sl api_Prop.ks (List.map api_Prop.enc [])), .d (.bool false), .d (.int .i64 0), .d (.sl api_Sub.ks (List.map api_Sub.enc [])), .d (.sl [.str] (List.map encS [])), .d (.sl [.int .i64] (List.map (encI .i64) []))], .d (.bool true)] [] []))) (
  cond (p0.Kind == 6) (
  (some (.ret [.agg [.d (.int .i64 7), .d (.int .i64 p0.ID), .d (.bool false), .d (.str ([] : Str)), .d (.str ([] : Str)), .d (.int .i64 0), .d (.bool false), .d (.int .i64 0), .d (.int .i64 0), .d (.str ([] : Str)), .d (.int .i64 0), .d (.sl api_Prop.ks (List.map api_Prop.enc [])), .d (.str ([] : Str)), .d (.str ([] : Str)), .d (.bool false), .d (.int .i64 0), .d (.int .i64 0), .d (.int .i64 0), .d (.bool false), .d (.int .i64 0), .d (.str ([] : Str)), .d (.str ([] : Str)), .d (.int .i64 0), .d (.bool false), .d (.int .i64 0), .d (.int .i64 0), .d (.str ([] : Str)), .d (.int .i64 0), .d (.sl api_Prop.ks (List.map api_Prop.enc [])), .d (.bool false), .d (.int .i64 0), .d (.sl api_Sub.ks (List.map api_Sub.enc [])), .d (.sl [.str] (List.map encS [])), .d (.sl [.int .i64] (List.map (encI .i64) []))], .d (.bool true)] [] []))) (
  cond (p0.Kind == 12) (
  (some (.ret [.agg [.d (.int .i64 13), .d (.int .i64 p0.ID), .d (.bool false), .d (.str ([] : Str)), .d (.str ([] : Str)), .d (.int .i64 0), .d (.bool false), .d (.int .i64 0), .d (.int .i64 0), .d (.str ([] : Str)), .d (.int .i64 0), .d (.sl api_Prop.ks (List.map api_Prop.enc [])), .d (.str ([] : Str)), .d (.str ([] : Str)), .d (.bool false), .d (.int .i64 0), .d (.int .i64 0), .d (.int .i64 0), .d (.bool false), .d (.int .i64 0), .d (.str ([] : Str)), .d (.str ([] : Str)), .d (.int .i64 0), .d (.bool false), .d (.int .i64 0), .d (.int .i64 0), .d (.str ([] : Str)), .d (.int .i64 0), .d (.sl api_Prop.ks (List.map api_Prop.enc [])), .d (.bool false), .d (.int .i64 0), .d (.sl api_Sub.ks (List.map api_Sub.enc [])), .d (.sl [.str] (List.map encS [])), .d (.sl [.int .i64] (List.map (encI .i64) []))], .d (.bool true)] [] []))) (
  (some (.ret [.agg [.d (.int .i64 0), .d (.int .i64 0), .d (.bool false), .d (.str ([] : Str)), .d (.str ([] : Str)), .d (.int .i64 0), .d (.bool false), .d (.int .i64 0), .d (.int .i64 0), .d (.str ([] : Str)), .d (.int .i64 0), .d (.sl api_Prop.ks (List.map api_Prop.enc [])), .d (.str ([] : Str)), .d (.str ([] : Str)), .d (.bool false), .d (.int .i64 0), .d (.int .i64 0), .d (.int .i64 0), .d (.bool false), .d (.int .i64 0), .d (.str ([] : Str)), .d (.str ([] : Str)), .d (.int .i64 0), .d (.bool false), .d (.int .i64 0), .d (.int .i64 0), .d (.str ([] : Str)), .d (.int .i64 0), .d (.sl api_Prop.ks (List.map api_Prop.enc [])), .d (.bool false), .d (.int .i64 0), .d (.sl api_Sub.ks (List.map api_Sub.enc [])), .d (.sl [.str] (List.map encS [])), .d (.sl [.int .i64] (List.map (encI .i64) []))], .d (.bool false)] [] []))))))) (
 cond (p0.Kind == 5) (
  (some (.ret [.agg [.d (.int .i64 6), .d (.int .i64 p0.ID), .d (.bool false), .d (.str ([] : Str)), .d (.str ([] : Str)), .d (.int .i64 0), .d (.bool false), .d (.int .i64 0), .d (.int .i64 0), .d (.str ([] : Str)), .d (.int .i64 0), .d (.sl api_Prop.ks (List.map api_Prop.enc [])), .d (.str ([] : Str)), .d (.str ([] : Str)), .d (.bool false), .d (.int .i64 0), .d (.int .i64 0), .d (.int .i64 0), .d (.bool false), .d (.int .i64 0), .d (.str ([] : Str)), .d (.str ([] : Str)), .d (.int .i64 0), .d (.bool false), .d (.int .i64 0), .d (.int .i64 0), .d (.str ([] : Str)), .d (.int .i64 0), .d (.sl api_Prop.ks (List.map api_Prop.enc [])), .d (.bool false), .d (.int .i64 0), .d (.sl api_Sub.ks (List.map api_Sub.enc [])), .d (.sl [.str] (List.map encS [])), .d (.sl [.int .i64] (List.map (encI .i64) []))], .d (.bool true)] [] []))) (
 cond (p0.Kind == 6) (
  (some (.ret [.agg [.d (.int .i64 7), .d (.int .i64 p0.ID), .d (.bool false), .d (.str ([] : Str)), .d (.str ([] : Str)), .d (.int .i64 0), .d (.bool false), .d (.int .i64 0), .d (.int .i64 0), .d (.str ([] : Str)), .d (.int .i64 0), .d (.sl api_Prop.ks (List.map api_Prop.enc [])), .d (.str ([] : Str)), .d (.str ([] : Str)), .d (.bool false), .d (.int .i64 0), .d (.int .i64 0), .d (.int .i64 0), .d (.bool false), .d (.int .i64 0), .d (.str ([] : Str)), .d (.str ([] : Str)), .d (.int .i64 0), .d (.bool false), .d (.int .i64 0), .d (.int .i64 0), .d (.str ([] : Str)), .d (.int .i64 0), .d (.sl api_Prop.ks (List.map api_Prop.enc [])), .d (.bool false), .d (.int .i64 0), .d (.sl api_Sub.ks (List.map api_Sub.enc [])), .d (.sl [.str] (List.map encS [])), .d (.sl [.int .i64] (List.map (encI .i64) []))], .d (.bool true)] [] []))) (
 cond (p0.Kind == 12) (
  (some (.ret [.agg [.d (.int .i64 13), .d (.int .i64 p0.ID), .d (.bool false), .d (.str ([] : Str)), .d (.str ([] : Str)), .d (.int .i64 0), .d (.bool false), .d (.int .i64 0), .d (.int .i64 0), .d (.str ([] : Str)), .d (.int .i64 0), .d (.sl api_Prop.ks (List.map api_Prop.enc [])), .d (.str ([] : Str)), .d (.str ([] : Str)), .d (.bool false), .d (.int .i64 0), .d (.int .i64 0), .d (.int .i64 0), .d (.bool false), .d (.int .i64 0), .d (.str ([] : Str)), .d (.str ([] : Str)), .d (.int .i64 0), .d (.bool false), .d (.int .i64 0), .d (.int .i64 0), .d (.str ([] : Str)), .d (.int .i64 0), .d (.sl api_Prop.ks (List.map api_Prop.enc [])), .d (.bool false), .d (.int .i64 0), .d (.sl api_Sub.ks (List.map api_Sub.enc [])), .d (.sl [.str] (List.map encS [])), .d (.sl [.int .i64] (List.map (encI .i64) []))], .d (.bool true)] [] []))) (
 (some (.ret [.agg [.d (.int .i64 0), .d (.int .i64 0), .d (.bool false), .d (.str ([] : Str)), .d (.str ([] : Str)), .d (.int .i64 0), .d (.bool false), .d (.int .i64 0), .d (.int .i64 0), .d (.str ([] : Str)), .d (.int .i64 0), .d (.sl api_Prop.ks (List.map api_Prop.enc [])), .d (.str ([] : Str)), .d (.str ([] : Str)), .d (.bool false), .d (.int .i64 0), .d (.int .i64 0), .d (.int .i64 0), .d (.bool false), .d (.int .i64 0), .d (.str ([] : Str)), .d (.str ([] : Str)), .d (.int .i64 0), .d (.bool false), .d (.int .i64 0), .d (.int .i64 0), .d (.str ([] : Str)), .d (.int .i64 0), .d (.sl api_Prop.ks (List.map api_Prop.enc [])), .d (.bool false), .d (.int .i64 0), .d (.sl api_Sub.ks (List.map api_Sub.enc [])), .d (.sl [.str] (List.map encS [])), .d (.sl [.int .i64] (List.map (encI .i64) []))], .d (.bool false)] [] [])))))))) (
 cond (p0.Kind == 3) (
 cond (p0.Message.Level == 2) (
  (some (.ret [.agg [.d (.int .i64 5), .d (.int .i64 p0.ID), .d (.bool false), .d (.str ([] : Str)), .d (.str ([] : Str)), .d (.int .i64 0), .d (.bool false), .d (.int .i64 0), .d (.int .i64 0), .d (.str ([] : Str)), .d (.int .i64 0), .d (.sl api_Prop.ks (List.map api_Prop.enc [])), .d (.str ([] : Str)), .d (.str ([] : Str)), .d (.bool false), .d (.int .i64 0), .d (.int .i64 0), .d (.int .i64 0), .d (.bool false), .d (.int .i64 0), .d (.str ([] : Str)), .d (.str ([] : Str)), .d (.int .i64 0), .d (.bool false), .d (.int .i64 0), .d (.int .i64 0), .d (.str ([] : Str)), .d (.int .i64 0), .d (.sl api_Prop.ks (List.map api_Prop.enc [])), .d (.bool false), .d (.int .i64 0), .d (.sl api_Sub.ks (List.map api_Sub.enc [])), .d (.sl [.str] (List.map encS [])), .d (.sl [.int .i64] (List.map (encI .i64) []))], .d (.bool true)] [] []))) (
 cond (p0.Kind == 5) (
  (some (.ret [.agg [.d (.int .i64 6), .d (.int .i64 p0.ID), .d (.bool false), .d (.str ([] : Str)), .d (.str ([] : Str)), .d (.int .i64 0), .d (.bool false), .d (.int .i64 0), .d (.int .i64 0), .d (.str ([] : Str)), .d (.int .i64 0), .d (.sl api_Prop.ks (List.map api_Prop.enc [])), .d (.str ([] : Str)), .d (.str ([] : Str)), .d (.bool false), .d (.int .i64 0), .d (.int .i64 0), .d (.int .i64 0), .d (.bool false), .d (.int .i64 0), .d (.str ([] : Str)), .d (.str ([] : Str)), .d (.int .i64 0), .d (.bool false), .d (.int .i64 0), .d (.int .i64 0), .d (.str ([] : Str)), .d (.int .i64 0), .d (.sl api_Prop.ks (List.map api_Prop.enc [])), .d (.bool false), .d (.int .i64 0), .d (.sl api_Sub.ks (List.map api_Sub.enc [])), .d (.sl [.str] (List.map encS [])), .d (.sl [.int .i64] (List.map (encI .i64) []))], .d (.bool true)] [] []))) (
 cond (p0.Kind == 6) (
  (some (.ret [.agg [.d (.int .i64 7), .d (.int .i64 p0.ID), .d (.bool false), .d (.str ([] : Str)), .d (.str ([] : Str)), .d (.int .i64 0), .d (.bool false), .d (.int .i64 0), .d (.int .i64 0), .d (.str ([] : Str)), .d (.int .i64 0), .d (.sl api_Prop.ks (List.map api_Prop.enc [])), .d (.str ([] : Str)), .d (.str ([] : Str)), .d (.bool false), .d (.int .i64 0), .d (.int .i64 0), .d (.int .i64 0), .d (.bool false), .d (.int .i64 0), .d (.str ([] : Str)), .d (.str ([] : Str)), .d (.int .i64 0), .d (.bool false), .d (.int .i64 0), .d (.int .i64 0), .d (.str ([] : Str)), .d (.int .i64 0), .d (.sl api_Prop.ks (List.map api_Prop.enc [])), .d (.bool false), .d (.int .i64 0), .d (.sl api_Sub.ks (List.map api_Sub.enc [])), .d (.sl [.str] (List.map encS [])), .d (.sl [.int .i64] (List.map (encI .i64) []))], .d (.bool true)] [] []))) (
 cond (p0.Kind == 12) (
  (some (.ret [.agg [.d (.int .i64 13), .d (.int .i64 p0.ID), .d (.bool false), .d (.str ([] : Str)), .d (.str ([] : Str)), .d (.int .i64 0), .d (.bool false), .d (.int .i64 0), .d (.int .i64 0), .d (.str ([] : Str)), .d (.int .i64 0), .d (.sl api_Prop.ks (List.map api_Prop.enc [])), .d (.str ([] : Str)), .d (.str ([] : Str)), .d (.bool false), .d (.int .i64 0), .d (.int .i64 0), .d (.int .i64 0), .d (.bool false), .d (.int .i64 0), .d (.str ([] : Str)), .d (.str ([] : Str)), .d (.int .i64 0), .d (.bool false), .d (.int .i64 0), .d (.int .i64 0), .d (.str ([] : Str)), .d (.int .i64 0), .d (.sl api_Prop.ks (List.map api_Prop.enc [])), .d (.bool false), .d (.int .i64 0), .d (.sl api_Sub.ks (List.map api_Sub.enc [])), .d (.sl [.str] (List.map encS [])), .d (.sl [.int .i64] (List.map (encI .i64) []))], .d (.bool true)] [] []))) (
 (some (.ret [.agg [.d (.int .i64 0), .d (.int .i64 0), .d (.bool false), .d (.str ([] : Str)), .d (.str ([] : Str)), .d (.int .i64 0), .d (.bool false), .d (.int .i64 0), .d (.int .i64 0), .d (.str ([] : Str)), .d (.int .i64 0), .d (.sl api_Prop.ks (List.map api_Prop.enc [])), .d (.str ([] : Str)), .d (.str ([] : Str)), .d (.bool false), .d (.int .i64 0), .d (.int .i64 0), .d (.int .i64 0), .d (.bool false), .d (.int .i64 0), .d (.str ([] : Str)), .d (.str ([] : Str)), .d (.int .i64 0), .d (.bool false), .d (.int .i64 0), .d (.int .i64 0), .d (.str ([] : Str)), .d (.int .i64 0), .d (.sl api_Prop.ks (List.map api_Prop.enc [])), .d (.bool false), .d (.int .i64 0), .d (.sl api_Sub.ks (List.map api_Sub.enc [])), .d (.sl [.str] (List.map encS [])), .d (.sl [.int .i64] (List.map (encI .i64) []))], .d (.bool false)] [] []))))))) (
 cond (p0.Kind == 5) (
 (some (.ret [.agg [.d (.int .i64 6), .d (.int .i64 p0.ID), .d (.bool false), .d (.str ([] : Str)), .d (.str ([] : Str)), .d (.int .i64 0), .d (.bool false), .d (.int .i64 0), .d (.int .i64 0), .d (.str ([] : Str)), .d (.int .i64 0), .d (.sl api_Prop.ks (List.map api_Prop.enc [])), .d (.str ([] : Str)), .d (.str ([] : Str)), .d (.bool false), .d (.int .i64 0), .d (.int .i64 0), .d (.int .i64 0), .d (.bool false), .d (.int .i64 0), .d (.str ([] : Str)), .d (.str ([] : Str)), .d (.int .i64 0), .d (.bool false), .d (.int .i64 0), .d (.int .i64 0), .d (.str ([] : Str)), .d (.int .i64 0), .d (.sl api_Prop.ks (List.map api_Prop.enc [])), .d (.bool false), .d (.int .i64 0), .d (.sl api_Sub.ks (List.map api_Sub.enc [])), .d (.sl [.str] (List.map encS [])), .d (.sl [.int .i64] (List.map (encI .i64) []))], .d (.bool true)] [] []))) (
 cond (p0.Kind == 6) (
 (some (.ret [.agg [.d (.int .i64 7), .d (.int .i64 p0.ID), .d (.bool false), .d (.str ([] : Str)), .d (.str ([] : Str)), .d (.int .i64 0), .d (.bool false), .d (.int .i64 0), .d (.int .i64 0), .d (.str ([] : Str)), .d (.int .i64 0), .d (.sl api_Prop.ks (List.map api_Prop.enc [])), .d (.str ([] : Str)), .d (.str ([] : Str)), .d (.bool false), .d (.int .i64 0), .d (.int .i64 0), .d (.int .i64 0), .d (.bool false), .d (.int .i64 0), .d (.str ([] : Str)), .d (.str ([] : Str)), .d (.int .i64 0), .d (.bool false), .d (.int .i64 0), .d (.int .i64 0), .d (.str ([] : Str)), .d (.int .i64 0), .d (.sl api_Prop.ks (List.map api_Prop.enc [])), .d (.bool false), .d (.int .i64 0), .d (.sl api_Sub.ks (List.map api_Sub.enc [])), .d (.sl [.str] (List.map encS [])), .d (.sl [.int .i64] (List.map (encI .i64) []))], .d (.bool true)] [] []))) (
 cond (p0.Kind == 12) (
 (some (.ret [.agg [.d (.int .i64 13), .d (.int .i64 p0.ID), .d (.bool false), .d (.str ([] : Str)), .d (.str ([] : Str)), .d (.int .i64 0), .d (.bool false), .d (.int .i64 0), .d (.int .i64 0), .d (.str ([] : Str)), .d (.int .i64 0), .d (.sl api_Prop.ks (List.map api_Prop.enc [])), .d (.str ([] : Str)), .d (.str ([] : Str)), .d (.bool false), .d (.int .i64 0), .d (.int .i64 0), .d (.int .i64 0), .d (.bool false), .d (.int .i64 0), .d (.str ([] : Str)), .d (.str ([] : Str)), .d (.int .i64 0), .d (.bool false), .d (.int .i64 0), .d (.int .i64 0), .d (.str ([] : Str)), .d (.int .i64 0), .d (.sl api_Prop.ks (List.map api_Prop.enc [])), .d (.bool false), .d (.int .i64 0), .d (.sl api_Sub.ks (List.map api_Sub.enc [])), .d (.sl [.str] (List.map encS [])), .d (.sl [.int .i64] (List.map (encI .i64) []))], .d (.bool true)] [] []))) (
 (some (.ret [.agg [.d (.int .i64 0), .d (.int .i64 0), .d (.bool false), .d (.str ([] : Str)), .d (.str ([] : Str)), .d (.int .i64 0), .d (.bool false), .d (.int .i64 0), .d (.int .i64 0), .d (.str ([] : Str)), .d (.int .i64 0), .d (.sl api_Prop.ks (List.map api_Prop.enc [])), .d (.str ([] : Str)), .d (.str ([] : Str)), .d (.bool false), .d (.int .i64 0), .d (.int .i64 0), .d (.int .i64 0), .d (.bool false), .d (.int .i64 0), .d (.str ([] : Str)), .d (.str ([] : Str)), .d (.int .i64 0), .d (.bool false), .d (.int .i64 0), .d (.int .i64 0), .d (.str ([] : Str)), .d (.int .i64 0), .d (.sl api_Prop.ks (List.map api_Prop.enc [])), .d (.bool false), .d (.int .i64 0), .d (.sl api_Sub.ks (List.map api_Sub.enc [])), .d (.sl [.str] (List.map encS [])), .d (.sl [.int .i64] (List.map (encI .i64) []))], .d (.bool false)] [] []))))))) := by kernel_rfl
abbrev X23 : CFun := C23 (callG SE good)
theorem Cr23 : C23 (callG SE good) = bindC (callG SE good) := by unfold C23; rfl
theorem packet_Answer_ok (p0 : api_Packet) : Le (Option.map packet_Answer_out (packet_Answer p0)) (callW SE 23 [api_Packet.av p0] [] []) := by
 refine le_bodyC Cr23 rfl ?_
 refine Le.trans ?_ (le_of_eq (T23 _ _ _  p0).symm)
 unfold packet_Answer
 refine lC ?_ ?_
 ·refine lC ?_ ?_
  ·exact le_ret (by first | rfl | simp only [EN, packet_Answer_out] <;> rfl)
  ·refine lC ?_ ?_
   ·refine lC ?_ ?_
    ·exact le_ret (by first | rfl | simp only [EN, packet_Answer_out] <;> rfl)
    ·refine lC ?_ ?_
     ·exact le_ret (by first | rfl | simp only [EN, packet_Answer_out] <;> rfl)
     ·refine lC ?_ ?_
      ·exact le_ret (by first | rfl | simp only [EN, packet_Answer_out] <;> rfl)
      ·refine lC ?_ ?_
       ·exact le_ret (by first | rfl | simp only [EN, packet_Answer_out] <;> rfl)
       ·exact le_ret (by first | rfl | simp only [EN, packet_Answer_out] <;> rfl)
   ·refine lC ?_ ?_
    ·exact le_ret (by first | rfl | simp only [EN, packet_Answer_out] <;> rfl)
    ·refine lC ?_ ?_
     ·exact le_ret (by first | rfl | simp only [EN, packet_Answer_out] <;> rfl)
     ·refine lC ?_ ?_
      ·exact le_ret (by first | rfl | simp only [EN, packet_Answer_out] <;> rfl)
      ·exact le_ret (by first | rfl | simp only [EN, packet_Answer_out] <;> rfl)
 ·refine lC ?_ ?_
  ·refine lC ?_ ?_
   ·exact le_ret (by first | rfl | simp only [EN, packet_Answer_out] <;> rfl)
   ·refine lC ?_ ?_
    ·exact le_ret (by first | rfl | simp only [EN, packet_Answer_out] <;> rfl)
    ·refine lC ?_ ?_
     ·exact le_ret (by first | rfl | simp only [EN, packet_Answer_out] <;> rfl)
     ·refine lC ?_ ?_
      ·exact le_ret (by first | rfl | simp only [EN, packet_Answer_out] <;> rfl)
      ·exact le_ret (by first | rfl | simp only [EN, packet_Answer_out] <;> rfl)
  ·refine lC ?_ ?_
   ·exact le_ret (by first | rfl | simp only [EN, packet_Answer_out] <;> rfl)
   ·refine lC ?_ ?_
    ·exact le_ret (by first | rfl | simp only [EN, packet_Answer_out] <;> rfl)
    ·refine lC ?_ ?_
     ·exact le_ret (by first | rfl | simp only [EN, packet_Answer_out] <;> rfl)
     ·exact le_ret (by first | rfl | simp only [EN, packet_Answer_out] <;> rfl)
def C9 (Γ : Fun) (γ20 : Gm (Int)) (γ19 : Gm (Bool)) (γ21 : Gm ((List Int))) (γ22 : Gm ((List Int))) (γ23 : Gm (api_Packet × Bool)) : CFun := updC (updC (updC (updC (updC (bindC Γ) 20 packet_Check_out γ20) 19 inbound_Has_out γ19) 21 slices_Clone___int_int__out γ21) 22 inbound_insert_int__out γ22) 23 packet_Answer_out γ23
def R9_12 (C : CFun) (Λ2 J : Lam) (a0 : Bool) (a1 : (List D)) (a2 : (List D)) (a3 : (List (List D))) : Res := lab SE C Λ2 J 9 0 [1, 1, 1, 1, 1, 1, 1, 0] (stoOf [(3, .ptr 1000000000 0), (4, .ptr 1000000001 0), (9, .d (.bool a0)), (10, .ptr 1000000002 0)] [⟨33, (List.map AV.d a1)⟩, ⟨24, (List.map AV.d a2)⟩, ⟨24, [.row 50200]⟩] [] [] [(50200, ⟨[.int .i64], 3, 8, a3⟩)])
def R9_9 (C : CFun) (Λ2 J : Lam) (a0 : Bool) (a1 : (List D)) (a2 : (List D)) (a3 : (List D)) : Res := lab SE C Λ2 J 9 0 [1, 1, 1, 1, 1, 0] (stoOf [(2, .ptr 1000000000 0), (3, .ptr 1000000001 0), (4, .ptr 1000000002 0), (9, .d (.bool a0))] [⟨24, (List.map AV.d a1)⟩, ⟨33, (List.map AV.d a2)⟩, ⟨24, (List.map AV.d a3)⟩] [] [] [])
def R9_7 (C : CFun) (Λ2 J : Lam) (a0 : Bool) (a1 : (List D)) (a2 : (List D)) (a3 : (List D)) : Res := lab SE C Λ2 J 9 0 [1, 1, 1, 1, 0, 0] (stoOf [(2, .ptr 1000000000 0), (3, .ptr 1000000001 0), (4, .ptr 1000000002 0), (9, .d (.bool a0))] [⟨24, (List.map AV.d a1)⟩, ⟨33, (List.map AV.d a2)⟩, ⟨24, (List.map AV.d a3)⟩] [] [] [])
theorem T9 (Γ : Fun) (γ20 : Gm (Int)) (γ19 : Gm (Bool)) (γ21 : Gm ((List Int))) (γ22 : Gm ((List Int))) (γ23 : Gm (api_Packet × Bool)) (Λ2 J : Lam) (p0 : api_Inbox) (p1 : api_Packet) : bodyC SE (C9 Γ γ20 γ19 γ21 γ22 γ23) Λ2 J 9 [api_Inbox.av p0, api_Packet.av p1] [] [] =
 cond (p1.Kind != 3) (
 (some (.ret [.agg [.d (.sl [.int .i64] (List.map (encI .i64) []))], .d (.bool false), .row 0, .d (.int .i64 10)] [] [⟨api_Packet.ks, 33, 416, []⟩]))) (
 γ20 [api_Packet.av p1] [] [] fun r0 =>
 cond (r0 != 0) (
 (some (.ret [.agg [.d (.sl [.int .i64] (List.map (encI .i64) []))], .d (.bool false), .row 0, .d (.int .i64 r0)] [] [⟨api_Packet.ks, 33, 416, []⟩]))) (
 cond (decide (p1.Message.Level < 2)) (
 R9_7 (C9 Γ γ20 γ19 γ21 γ22 γ23) Λ2 J true (api_Inbox.enc p0) (api_Packet.enc p1) [D.sl [.int .i64] (List.map (encI .i64) [])]) (
 γ19 [api_Inbox.av p0, .d (.int .i64 p1.ID)] [] [] fun r1 =>
 R9_7 (C9 Γ γ20 γ19 γ21 γ22 γ23) Λ2 J (!r1) (api_Inbox.enc p0) (api_Packet.enc p1) [D.sl [.int .i64] (List.map (encI .i64) [])]))) := by kernel_rfl
theorem T9_12 (Γ : Fun) (γ20 : Gm (Int)) (γ19 : Gm (Bool)) (γ21 : Gm ((List Int))) (γ22 : Gm ((List Int))) (γ23 : Gm (api_Packet × Bool)) (Λ2 J : Lam) (x9 : Bool) (b0 : api_Packet) (b1 : api_Inbox) (w50200 : (List Int)) : labU SE (C9 Γ γ20 γ19 γ21 γ22 γ23) Λ2 J 9 0 [1, 1, 1, 1, 1, 1, 1, 0] (stoOf [(3, .ptr 1000000000 0), (4, .ptr 1000000001 0), (9, .d (.bool x9)), (10, .ptr 1000000002 0)] [⟨33, (List.map AV.d (api_Packet.enc b0))⟩, ⟨24, (List.map AV.d (api_Inbox.enc b1))⟩, ⟨24, [.row 50200]⟩] [] [] [(50200, ⟨[.int .i64], 3, 8, (List.map (encI .i64) w50200)⟩)]) =
 γ23 [api_Packet.av b0] [] [] fun r4 =>
 cond (!r4.2) (
 (some (.ret [api_Inbox.av (api_Inbox.mk w50200), .d (.bool x9), .row 0, .d (.int .i64 0)] [] [⟨api_Packet.ks, 33, 416, []⟩]))) (
 (some (.ret [api_Inbox.av (api_Inbox.mk w50200), .d (.bool x9), .row 0, .d (.int .i64 0)] [] [⟨api_Packet.ks, 33, 416, (List.map api_Packet.enc [r4.1])⟩]))) := by kernel_rfl
theorem T9_9 (Γ : Fun) (γ20 : Gm (Int)) (γ19 : Gm (Bool)) (γ21 : Gm ((List Int))) (γ22 : Gm ((List Int))) (γ23 : Gm (api_Packet × Bool)) (Λ2 J : Lam) (x9 : Bool) (b0 : api_Inbox) (b1 : api_Packet) (b2 : api_Inbox) : labU SE (C9 Γ γ20 γ19 γ21 γ22 γ23) Λ2 J 9 0 [1, 1, 1, 1, 1, 0] (stoOf [(2, .ptr 1000000000 0), (3, .ptr 1000000001 0), (4, .ptr 1000000002 0), (9, .d (.bool x9))] [⟨24, (List.map AV.d (api_Inbox.enc b0))⟩, ⟨33, (List.map AV.d (api_Packet.enc b1))⟩, ⟨24, (List.map AV.d (api_Inbox.enc b2))⟩] [] [] []) =
 γ21 [.d (.sl [.int .i64] (List.map (encI .i64) b0.IDs))] [] [] fun r2 =>
 cond (b1.Message.Level == 2) (
 γ22 [.d (.sl [.int .i64] (List.map (encI .i64) b0.IDs)), .d (.int .i64 b1.ID)] [] [] fun r3 =>
 R9_12 (C9 Γ γ20 γ19 γ21 γ22 γ23) Λ2 J x9 (api_Packet.enc b1) (api_Inbox.enc b2) (List.map (encI .i64) r3)) (
 R9_12 (C9 Γ γ20 γ19 γ21 γ22 γ23) Λ2 J x9 (api_Packet.enc b1) (api_Inbox.enc b2) (List.map (encI .i64) r2)) := by kernel_rfl
theorem T9_7 (Γ : Fun) (γ20 : Gm (Int)) (γ19 : Gm (Bool)) (γ21 : Gm ((List Int))) (γ22 : Gm ((List Int))) (γ23 : Gm (api_Packet × Bool)) (Λ2 J : Lam) (x9 : Bool) (b0 : api_Inbox) (b1 : api_Packet) (b2 : api_Inbox) : labU SE (C9 Γ γ20 γ19 γ21 γ22 γ23) Λ2 J 9 0 [1, 1, 1, 1, 0, 0] (stoOf [(2, .ptr 1000000000 0), (3, .ptr 1000000001 0), (4, .ptr 1000000002 0), (9, .d (.bool x9))] [⟨24, (List.map AV.d (api_Inbox.enc b0))⟩, ⟨33, (List.map AV.d (api_Packet.enc b1))⟩, ⟨24, (List.map AV.d (api_Inbox.enc b2))⟩] [] [] []) =
 cond (b1.Message.Level == 2) (
 cond x9 (
  cond (decide ((List.length (List.map (encI .i64) b0.IDs) : Int) ≥ 32)) (
  (some (.ret [.agg [.d (.sl [.int .i64] (List.map (encI .i64) []))], .d (.bool false), .row 0, .d (.int .i64 6)] [] [⟨api_Packet.ks, 33, 416, []⟩]))) (
  R9_9 (C9 Γ γ20 γ19 γ21 γ22 γ23) Λ2 J x9 (api_Inbox.enc b0) (api_Packet.enc b1) (api_Inbox.enc b2))) (
 R9_9 (C9 Γ γ20 γ19 γ21 γ22 γ23) Λ2 J x9 (api_Inbox.enc b0) (api_Packet.enc b1) (api_Inbox.enc b2))) (
 R9_9 (C9 Γ γ20 γ19 γ21 γ22 γ23) Λ2 J x9 (api_Inbox.enc b0) (api_Packet.enc b1) (api_Inbox.enc b2)) := by kernel_rfl
abbrev X9 : CFun := C9 (callG SE good) (callT SE good 20 packet_Check_out) (callT SE good 19 inbound_Has_out) (callT SE good 21 slices_Clone___int_int__out) (callT SE good 22 inbound_insert_int__out) (callT SE good 23 packet_Answer_out)
theorem Cr9 : C9 (callG SE good) (callT SE good 20 packet_Check_out) (callT SE good 19 inbound_Has_out) (callT SE good 21 slices_Clone___int_int__out) (callT SE good 22 inbound_insert_int__out) (callT SE good 23 packet_Answer_out) = bindC (callG SE good) := by unfold C9; rw [updC_real (fun _ h => h), updC_real (fun _ h => h), updC_real (fun _ h => h), updC_real (fun _ h => h), updC_real (fun _ h => h)]
noncomputable abbrev Q9_12 (a0 : Bool) (a1 : (List D)) (a2 : (List D)) (a3 : (List (List D))) : Res := R9_12 X9 (lam2 SE (callG SE good) (SE.hl 9) (SE.hr 9)) (J0 SE X9) a0 a1 a2 a3
noncomputable abbrev Q9_9 (a0 : Bool) (a1 : (List D)) (a2 : (List D)) (a3 : (List D)) : Res := R9_9 X9 (lam2 SE (callG SE good) (SE.hl 9) (SE.hr 9)) (J0 SE X9) a0 a1 a2 a3
noncomputable abbrev Q9_7 (a0 : Bool) (a1 : (List D)) (a2 : (List D)) (a3 : (List D)) : Res := R9_7 X9 (lam2 SE (callG SE good) (SE.hl 9) (SE.hr 9)) (J0 SE X9) a0 a1 a2 a3
theorem inbound_Accept_j12_ok (x9 : Bool) (b0 : api_Packet) (b1 : api_Inbox) (w50200 : (List Int)) : Le (Option.map inbound_Accept_out (inbound_Accept_j12 x9 b0 b1 w50200)) (Q9_12 x9 (api_Packet.enc b0) (api_Inbox.enc b1) (List.map (encI .i64) w50200)) := by
 refine Le.trans ?_ (le_of_eq ((lab_realC Cr9).trans (T9_12 _ _ _ _ _ _ _ _  x9 b0 b1 w50200)).symm)
 unfold inbound_Accept_j12
 refine le_call (good := good) eX packet_Answer_inj (packet_Answer_ok b0) (fun r4 _ => ?_)
 refine lC ?_ ?_
 ·exact le_ret (by first | rfl | simp only [EN, inbound_Accept_out] <;> rfl)
 ·exact le_ret (by first | rfl | simp only [EN, inbound_Accept_out] <;> rfl)
theorem inbound_Accept_j9_ok (x9 : Bool) (b0 : api_Inbox) (b1 : api_Packet) (b2 : api_Inbox) : Le (Option.map inbound_Accept_out (inbound_Accept_j9 x9 b0 b1 b2)) (Q9_9 x9 (api_Inbox.enc b0) (api_Packet.enc b1) (api_Inbox.enc b2)) := by
 refine Le.trans ?_ (le_of_eq ((lab_realC Cr9).trans (T9_9 _ _ _ _ _ _ _ _  x9 b0 b1 b2)).symm)
 unfold inbound_Accept_j9
 refine le_call (good := good) eX slices_Clone___int_int__inj (slices_Clone___int_int__ok b0.IDs) (fun r2 _ => ?_)
 refine lC ?_ ?_
 ·refine le_call (good := good) eX inbound_insert_int__inj (inbound_insert_int__ok b0.IDs b1.ID) (fun r3 _ => ?_)
  exact inbound_Accept_j12_ok x9 b1 b2 r3
 ·exact inbound_Accept_j12_ok x9 b1 b2 r2
theorem inbound_Accept_j7_ok (x9 : Bool) (b0 : api_Inbox) (b1 : api_Packet) (b2 : api_Inbox) : Le (Option.map inbound_Accept_out (inbound_Accept_j7 x9 b0 b1 b2)) (Q9_7 x9 (api_Inbox.enc b0) (api_Packet.enc b1) (api_Inbox.enc b2)) := by
 refine Le.trans ?_ (le_of_eq ((lab_realC Cr9).trans (T9_7 _ _ _ _ _ _ _ _  x9 b0 b1 b2)).symm)
 unfold inbound_Accept_j7
 refine lC ?_ ?_
 ·refine lC ?_ ?_
  ·refine le_cond (by simp only [EN]) (fun _ => ?_) (fun _ => ?_)
   ·exact le_ret (by first | rfl | simp only [EN, inbound_Accept_out] <;> rfl)
   ·exact inbound_Accept_j9_ok x9 b0 b1 b2
  ·exact inbound_Accept_j9_ok x9 b0 b1 b2
 ·exact inbound_Accept_j9_ok x9 b0 b1 b2
theorem inbound_Accept_ok (p0 : api_Inbox) (p1 : api_Packet) : Le (Option.map inbound_Accept_out (inbound_Accept p0 p1)) (callW SE 9 [api_Inbox.av p0, api_Packet.av p1] [] []) := by
 refine le_bodyC Cr9 rfl ?_
 refine Le.trans ?_ (le_of_eq (T9 _ _ _ _ _ _ _ _  p0 p1).symm)
 unfold inbound_Accept
 refine lC ?_ ?_
 ·exact le_ret (by first | rfl | simp only [EN, inbound_Accept_out] <;> rfl)
 ·refine le_call (good := good) eX packet_Check_inj (packet_Check_ok p1) (fun r0 _ => ?_)
  refine lC ?_ ?_
  ·exact le_ret (by first | rfl | simp only [EN, inbound_Accept_out] <;> rfl)
  ·refine lC ?_ ?_
   ·first | (simp only [EN]; exact inbound_Accept_j7_ok true p0 p1 (api_Inbox.mk ([] : List Int))) | exact inbound_Accept_j7_ok true p0 p1 (api_Inbox.mk ([] : List Int))
   ·refine le_call (good := good) eX inbound_Has_inj (inbound_Has_ok p0 p1.ID) (fun r1 _ => ?_)
    first | (simp only [EN]; exact inbound_Accept_j7_ok (!r1) p0 p1 (api_Inbox.mk ([] : List Int))) | exact inbound_Accept_j7_ok (!r1) p0 p1 (api_Inbox.mk ([] : List Int))
theorem slices_Delete___int_int__ok (p0 : (List Int)) (p1 : Int) (p2 : Int) : Le (Option.map slices_Delete___int_int__out (slices_Delete___int_int_ p0 p1 p2)) (callW SE 56 [.row 2000000000, .d (.int .i64 p1), .d (.int .i64 p2)] [] [⟨[.int .i64], 3, 8, (List.map (encI .i64) p0)⟩]) := le_delete (f := 56) (enc := (encI .i64)) rfl rfl p0 p1 p2
def C30 (Γ : Fun) (γ21 : Gm ((List Int))) (γ38 : Gm (Int × Bool)) (γ56 : Gm ((List Int))) : CFun := updC (updC (updC (bindC Γ) 21 slices_Clone___int_int__out γ21) 38 slices_BinarySearch___int_int__out γ38) 56 slices_Delete___int_int__out γ56
theorem T30 (Γ : Fun) (γ21 : Gm ((List Int))) (γ38 : Gm (Int × Bool)) (γ56 : Gm ((List Int))) (Λ2 J : Lam) (p0 : (List Int)) (p1 : Int) : bodyC SE (C30 Γ γ21 γ38 γ56) Λ2 J 30 [.d (.sl [.int .i64] (List.map (encI .i64) p0)), .d (.int .i64 p1)] [] [] =
 γ21 [.d (.sl [.int .i64] (List.map (encI .i64) p0))] [] [] fun r0 =>
 γ38 [.d (.sl [.int .i64] (List.map (encI .i64) r0)), .d (.int .i64 p1)] [] [] fun r1 =>
 cond r1.2 (
 γ56 [.row 2000000000, .d (.int .i64 r1.1), .d (.int .i64 (IntKind.wrap .i64 (r1.1 + 1)))] [] [⟨[.int .i64], 3, 8, (List.map (encI .i64) r0)⟩] fun r2 =>
 (some (.ret [.row 0] [] [⟨[.int .i64], 3, 8, (List.map (encI .i64) r2)⟩]))) (
 (some (.ret [.row 0] [] [⟨[.int .i64], 3, 8, (List.map (encI .i64) r0)⟩]))) := by kernel_rfl
abbrev X30 : CFun := C30 (callG SE good) (callT SE good 21 slices_Clone___int_int__out) (callT SE good 38 slices_BinarySearch___int_int__out) (callT SE good 56 slices_Delete___int_int__out)
theorem Cr30 : C30 (callG SE good) (callT SE good 21 slices_Clone___int_int__out) (callT SE good 38 slices_BinarySearch___int_int__out) (callT SE good 56 slices_Delete___int_int__out) = bindC (callG SE good) := by unfold C30; rw [updC_real (fun _ h => h), updC_real (fun _ h => h), updC_real (fun _ h => h)]
theorem inbound_without_int__ok (p0 : (List Int)) (p1 : Int) : Le (Option.map inbound_without_int__out (inbound_without_int_ p0 p1)) (callW SE 30 [.d (.sl [.int .i64] (List.map (encI .i64) p0)), .d (.int .i64 p1)] [] []) := by
 refine le_bodyC Cr30 rfl ?_
 refine Le.trans ?_ (le_of_eq (T30 _ _ _ _ _ _  p0 p1).symm)
 unfold inbound_without_int_
 refine le_call (good := good) eX slices_Clone___int_int__inj (slices_Clone___int_int__ok p0) (fun r0 _ => ?_)
 refine le_call (good := good) eX slices_BinarySearch___int_int__inj (slices_BinarySearch___int_int__ok r0 p1) (fun r1 _ => ?_)
 refine lC ?_ ?_
 ·refine le_call (good := good) eX slices_Delete___int_int__inj (slices_Delete___int_int__ok r0 r1.1 (IntKind.wrap .i64 (r1.1 + 1))) (fun r2 _ => ?_)
  exact le_ret (by first | rfl | simp only [EN, inbound_without_int__out] <;> rfl)
 ·exact le_ret (by first | rfl | simp only [EN, inbound_without_int__out] <;> rfl)
def C16 (Γ : Fun) (γ30 : Gm ((List Int))) : CFun := updC (bindC Γ) 30 inbound_without_int__out γ30
def R16_5 (C : CFun) (Λ2 J : Lam) (a0 : (List D)) (a1 : (List D)) (a2 : (List D)) (a3 : (List D)) : Res := lab SE C Λ2 J 16 0 [1, 1, 1, 0] (stoOf [(2, .ptr 1000000000 0), (3, .ptr 1000000001 0), (4, .ptr 1000000002 0), (5, .ptr 1000000003 0)] [⟨24, (List.map AV.d a0)⟩, ⟨33, (List.map AV.d a1)⟩, ⟨24, (List.map AV.d a2)⟩, ⟨33, (List.map AV.d a3)⟩] [] [] [])
theorem T16 (Γ : Fun) (γ30 : Gm ((List Int))) (Λ2 J : Lam) (p0 : api_Inbox) (p1 : api_Packet) : bodyC SE (C16 Γ γ30) Λ2 J 16 [api_Inbox.av p0, api_Packet.av p1] [] [] =
 cond (p1.Kind != 6) (
 (some (.ret [.agg [.d (.sl [.int .i64] (List.map (encI .i64) []))], .agg [.d (.int .i64 0), .d (.int .i64 0), .d (.bool false), .d (.str ([] : Str)), .d (.str ([] : Str)), .d (.int .i64 0), .d (.bool false), .d (.int .i64 0), .d (.int .i64 0), .d (.str ([] : Str)), .d (.int .i64 0), .d (.sl api_Prop.ks (List.map api_Prop.enc [])), .d (.str ([] : Str)), .d (.str ([] : Str)), .d (.bool false), .d (.int .i64 0), .d (.int .i64 0), .d (.int .i64 0), .d (.bool false), .d (.int .i64 0), .d (.str ([] : Str)), .d (.str ([] : Str)), .d (.int .i64 0), .d (.bool false), .d (.int .i64 0), .d (.int .i64 0), .d (.str ([] : Str)), .d (.int .i64 0), .d (.sl api_Prop.ks (List.map api_Prop.enc [])), .d (.bool false), .d (.int .i64 0), .d (.sl api_Sub.ks (List.map api_Sub.enc [])), .d (.sl [.str] (List.map encS [])), .d (.sl [.int .i64] (List.map (encI .i64) []))], .d (.int .i64 10)] [] []))) (
 cond (decide (p1.ID < 1)) (
 (some (.ret [.agg [.d (.sl [.int .i64] (List.map (encI .i64) []))], .agg [.d (.int .i64 0), .d (.int .i64 0), .d (.bool false), .d (.str ([] : Str)), .d (.str ([] : Str)), .d (.int .i64 0), .d (.bool false), .d (.int .i64 0), .d (.int .i64 0), .d (.str ([] : Str)), .d (.int .i64 0), .d (.sl api_Prop.ks (List.map api_Prop.enc [])), .d (.str ([] : Str)), .d (.str ([] : Str)), .d (.bool false), .d (.int .i64 0), .d (.int .i64 0), .d (.int .i64 0), .d (.bool false), .d (.int .i64 0), .d (.str ([] : Str)), .d (.str ([] : Str)), .d (.int .i64 0), .d (.bool false), .d (.int .i64 0), .d (.int .i64 0), .d (.str ([] : Str)), .d (.int .i64 0), .d (.sl api_Prop.ks (List.map api_Prop.enc [])), .d (.bool false), .d (.int .i64 0), .d (.sl api_Sub.ks (List.map api_Sub.enc [])), .d (.sl [.str] (List.map encS [])), .d (.sl [.int .i64] (List.map (encI .i64) []))], .d (.int .i64 15)] [] []))) (
 cond (decide (p1.ID > 65535)) (
 (some (.ret [.agg [.d (.sl [.int .i64] (List.map (encI .i64) []))], .agg [.d (.int .i64 0), .d (.int .i64 0), .d (.bool false), .d (.str ([] : Str)), .d (.str ([] : Str)), .d (.int .i64 0), .d (.bool false), .d (.int .i64 0), .d (.int .i64 0), .d (.str ([] : Str)), .d (.int .i64 0), .d (.sl api_Prop.ks (List.map api_Prop.enc [])), .d (.str ([] : Str)), .d (.str ([] : Str)), .d (.bool false), .d (.int .i64 0), .d (.int .i64 0), .d (.int .i64 0), .d (.bool false), .d (.int .i64 0), .d (.str ([] : Str)), .d (.str ([] : Str)), .d (.int .i64 0), .d (.bool false), .d (.int .i64 0), .d (.int .i64 0), .d (.str ([] : Str)), .d (.int .i64 0), .d (.sl api_Prop.ks (List.map api_Prop.enc [])), .d (.bool false), .d (.int .i64 0), .d (.sl api_Sub.ks (List.map api_Sub.enc [])), .d (.sl [.str] (List.map encS [])), .d (.sl [.int .i64] (List.map (encI .i64) []))], .d (.int .i64 15)] [] []))) (
 R16_5 (C16 Γ γ30) Λ2 J (api_Inbox.enc p0) (api_Packet.enc p1) [D.sl [.int .i64] (List.map (encI .i64) [])] [D.int .i64 0, D.int .i64 0, D.bool false, D.str ([] : Str), D.str ([] : Str), D.int .i64 0, D.bool false, D.int .i64 0, D.int .i64 0, D.str ([] : Str), D.int .i64 0, D.sl api_Prop.ks (List.map api_Prop.enc []), D.str ([] : Str), D.str ([] : Str), D.bool false, D.int .i64 0, D.int .i64 0, D.int .i64 0, D.bool false, D.int .i64 0, D.str ([] : Str), D.str ([] : Str), D.int .i64 0, D.bool false, D.int .i64 0, D.int .i64 0, D.str ([] : Str), D.int .i64 0, D.sl api_Prop.ks (List.map api_Prop.enc []), D.bool false, D.int .i64 0, D.sl api_Sub.ks (List.map api_Sub.enc []), D.sl [.str] (List.map encS []), D.sl [.int .i64] (List.map (encI .i64) [])]))) := by kernel_rfl
theorem T16_5 (Γ : Fun) (γ30 : Gm ((List Int))) (Λ2 J : Lam) (b0 : api_Inbox) (b1 : api_Packet) (b2 : api_Inbox) (b3 : api_Packet) : labU SE (C16 Γ γ30) Λ2 J 16 0 [1, 1, 1, 0] (stoOf [(2, .ptr 1000000000 0), (3, .ptr 1000000001 0), (4, .ptr 1000000002 0), (5, .ptr 1000000003 0)] [⟨24, (List.map AV.d (api_Inbox.enc b0))⟩, ⟨33, (List.map AV.d (api_Packet.enc b1))⟩, ⟨24, (List.map AV.d (api_Inbox.enc b2))⟩, ⟨33, (List.map AV.d (api_Packet.enc b3))⟩] [] [] []) =
 γ30 [.d (.sl [.int .i64] (List.map (encI .i64) b0.IDs)), .d (.int .i64 b1.ID)] [] [] fun r0 =>
 (some (.ret [api_Inbox.av (api_Inbox.mk r0), .agg [.d (.int .i64 7), .d (.int .i64 b1.ID), .d (.bool false), .d (.str ([] : Str)), .d (.str ([] : Str)), .d (.int .i64 0), .d (.bool false), .d (.int .i64 0), .d (.int .i64 0), .d (.str ([] : Str)), .d (.int .i64 0), .d (.sl api_Prop.ks (List.map api_Prop.enc [])), .d (.str ([] : Str)), .d (.str ([] : Str)), .d (.bool false), .d (.int .i64 0), .d (.int .i64 0), .d (.int .i64 0), .d (.bool false), .d (.int .i64 0), .d (.str ([] : Str)), .d (.str ([] : Str)), .d (.int .i64 0), .d (.bool false), .d (.int .i64 0), .d (.int .i64 0), .d (.str ([] : Str)), .d (.int .i64 0), .d (.sl api_Prop.ks (List.map api_Prop.enc [])), .d (.bool false), .d (.int .i64 0), .d (.sl api_Sub.ks (List.map api_Sub.enc [])), .d (.sl [.str] (List.map encS [])), .d (.sl [.int .i64] (List.map (encI .i64) []))], .d (.int .i64 0)] [] [])) := by kernel_rfl
abbrev X16 : CFun := C16 (callG SE good) (callT SE good 30 inbound_without_int__out)
theorem Cr16 : C16 (callG SE good) (callT SE good 30 inbound_without_int__out) = bindC (callG SE good) := by unfold C16; rw [updC_real (fun _ h => h)]
noncomputable abbrev Q16_5 (a0 : (List D)) (a1 : (List D)) (a2 : (List D)) (a3 : (List D)) : Res := R16_5 X16 (lam2 SE (callG SE good) (SE.hl 16) (SE.hr 16)) (J0 SE X16) a0 a1 a2 a3
theorem inbound_Release_j5_ok (b0 : api_Inbox) (b1 : api_Packet) (b2 : api_Inbox) (b3 : api_Packet) : Le (Option.map inbound_Release_out (inbound_Release_j5 b0 b1 b2 b3)) (Q16_5 (api_Inbox.enc b0) (api_Packet.enc b1) (api_Inbox.enc b2) (api_Packet.enc b3)) := by
 refine Le.trans ?_ (le_of_eq ((lab_realC Cr16).trans (T16_5 _ _ _ _  b0 b1 b2 b3)).symm)
 unfold inbound_Release_j5
 refine le_call (good := good) eX inbound_without_int__inj (inbound_without_int__ok b0.IDs b1.ID) (fun r0 _ => ?_)
 exact le_ret (by first | rfl | simp only [EN, inbound_Release_out] <;> rfl)
theorem inbound_Release_ok (p0 : api_Inbox) (p1 : api_Packet) : Le (Option.map inbound_Release_out (inbound_Release p0 p1)) (callW SE 16 [api_Inbox.av p0, api_Packet.av p1] [] []) := by
 refine le_bodyC Cr16 rfl ?_
 refine Le.trans ?_ (le_of_eq (T16 _ _ _ _  p0 p1).symm)
 unfold inbound_Release
 refine lC ?_ ?_
 ·exact le_ret (by first | rfl | simp only [EN, inbound_Release_out] <;> rfl)
 ·refine lC ?_ ?_
  ·exact le_ret (by first | rfl | simp only [EN, inbound_Release_out] <;> rfl)
  ·refine lC ?_ ?_
   ·exact le_ret (by first | rfl | simp only [EN, inbound_Release_out] <;> rfl)
   ·first | (simp only [EN]; exact inbound_Release_j5_ok p0 p1 (api_Inbox.mk ([] : List Int)) ((api_Packet.mk 0 0 false (api_Message.mk ([] : Str) ([] : Str) 0 false 0 0 ([] : Str) 0 ([] : List api_Prop)) ([] : Str) ([] : Str) false 0 0 0 (api_Will.mk false 0 (api_Message.mk ([] : Str) ([] : Str) 0 false 0 0 ([] : Str) 0 ([] : List api_Prop))) false 0 ([] : List api_Sub) ([] : List Str) ([] : List Int)))) | exact inbound_Release_j5_ok p0 p1 (api_Inbox.mk ([] : List Int)) ((api_Packet.mk 0 0 false (api_Message.mk ([] : Str) ([] : Str) 0 false 0 0 ([] : Str) 0 ([] : List api_Prop)) ([] : Str) ([] : Str) false 0 0 0 (api_Will.mk false 0 (api_Message.mk ([] : Str) ([] : Str) 0 false 0 0 ([] : Str) 0 ([] : List api_Prop))) false 0 ([] : List api_Sub) ([] : List Str) ([] : List Int)))
def C14 (Γ : Fun)  : CFun := bindC Γ
def R14_5 (C : CFun) (Λ2 J : Lam) (a0 : Int) (a1 : (List (List D))) (a2 : Int) (a3 : Int) : Res := lab SE C Λ2 J 14 0 [1, 1, 1, 0, 1, 0] (stoOf [(3, .d (.int .i64 a0)), (11, .d (.sl [.int .i64] a1)), (12, .d (.int .i64 a2)), (13, .d (.int .i64 a3))] [] [] [] [])
theorem T14 (Γ : Fun)  (Λ2 J : Lam) (p0 : api_Inbox) : bodyC SE (C14 Γ) Λ2 J 14 [api_Inbox.av p0] [] [] =
 cond (decide ((List.length (List.map (encI .i64) p0.IDs) : Int) > 32)) (
 (some (.ret [.d (.int .i64 5)] [] []))) (
 R14_5 (C14 Γ) Λ2 J 0 (List.map (encI .i64) p0.IDs) (List.length (List.map (encI .i64) p0.IDs) : Int) 0) := by kernel_rfl
theorem T14_5 (Γ : Fun)  (Λ2 J : Lam) (x3 : Int) (x11 : (List Int)) (x12 : Int) (x13 : Int) : labU SE (C14 Γ) Λ2 J 14 0 [1, 1, 1, 0, 1, 0] (stoOf [(3, .d (.int .i64 x3)), (11, .d (.sl [.int .i64] (List.map (encI .i64) x11))), (12, .d (.int .i64 x12)), (13, .d (.int .i64 x13))] [] [] [] []) =
 cond (decide (x13 < x12)) (
 cond (decide (0 ≤ x13) && decide (x13 < (List.length (List.map (encI .i64) x11) : Int))) (
  cond (decide ((dInt (cellAt (elemAt (List.map (encI .i64) x11) (Int.toNat x13)) 0)) ≤ x3)) (
  (some (.ret [.d (.int .i64 15)] [] []))) (
  cond (decide ((dInt (cellAt (elemAt (List.map (encI .i64) x11) (Int.toNat x13)) 0)) > 65535)) (
  (some (.ret [.d (.int .i64 15)] [] []))) (
  R14_5 (C14 Γ) Λ2 J ((dInt (cellAt (elemAt (List.map (encI .i64) x11) (Int.toNat x13)) 0))) (List.map (encI .i64) x11) x12 (IntKind.wrap .i64 (x13 + 1))))) none) (
 (some (.ret [.d (.int .i64 0)] [] []))) := by kernel_rfl
abbrev X14 : CFun := C14 (callG SE good)
theorem Cr14 : C14 (callG SE good) = bindC (callG SE good) := by unfold C14; rfl
noncomputable abbrev Q14_5 (a0 : Int) (a1 : (List (List D))) (a2 : Int) (a3 : Int) : Res := R14_5 X14 (lam2 SE (callG SE good) (SE.hl 14) (SE.hr 14)) (J0 SE X14) a0 a1 a2 a3
theorem inbound_Check_l5_ok : ∀ (fu : Nat) (x3 : Int) (x11 : (List Int)) (x12 : Int) (x13 : Int), Le (Option.map inbound_Check_out (inbound_Check_l5 fu x3 x11 x12 x13)) (Q14_5 x3 (List.map (encI .i64) x11) x12 x13) := by
 intro fu
 induction fu with
 | zero => intros; exact le_none
 | succ fu ih =>
  intro x3 x11 x12 x13
  refine Le.trans ?_ (le_of_eq ((lab_realC Cr14).trans (T14_5 _ _ _  x3 x11 x12 x13)).symm)
  unfold inbound_Check_l5
  refine lC ?_ ?_
  ·refine le_cond (by simp only [EN]) (fun _ => ?_) (fun _ => le_none)
   refine le_cond (by simp only [EN]) (fun _ => ?_) (fun _ => ?_)
   ·exact le_ret (by first | rfl | simp only [EN, inbound_Check_out] <;> rfl)
   ·refine le_cond (by simp only [EN]) (fun _ => ?_) (fun _ => ?_)
    ·exact le_ret (by first | rfl | simp only [EN, inbound_Check_out] <;> rfl)
    ·first | (simp only [EN]; exact ih (List.getD x11 (Int.toNat x13) default) x11 x12 (IntKind.wrap .i64 (x13 + 1))) | exact ih (List.getD x11 (Int.toNat x13) default) x11 x12 (IntKind.wrap .i64 (x13 + 1))
  ·exact le_ret (by first | rfl | simp only [EN, inbound_Check_out] <;> rfl)
theorem inbound_Check_ok (p0 : api_Inbox) : Le (Option.map inbound_Check_out (inbound_Check p0)) (callW SE 14 [api_Inbox.av p0] [] []) := by
 refine le_bodyC Cr14 rfl ?_
 refine Le.trans ?_ (le_of_eq (T14 _ _ _  p0).symm)
 unfold inbound_Check
 refine le_cond (by simp only [EN]) (fun _ => ?_) (fun _ => ?_)
 ·exact le_ret (by first | rfl | simp only [EN, inbound_Check_out] <;> rfl)
 ·first | (simp only [EN]; exact inbound_Check_l5_ok fuel 0 p0.IDs (List.length p0.IDs : Int) 0) | exact inbound_Check_l5_ok fuel 0 p0.IDs (List.length p0.IDs : Int) 0
def C8 (Γ : Fun) (γ9 : Gm (api_Inbox × Bool × (List api_Packet) × Int)) (γ16 : Gm (api_Inbox × api_Packet × Int)) (γ19 : Gm (Bool)) (γ14 : Gm (Int)) : CFun := updC (updC (updC (updC (bindC Γ) 9 inbound_Accept_out γ9) 16 inbound_Release_out γ16) 19 inbound_Has_out γ19) 14 inbound_Check_out γ14
theorem T8 (Γ : Fun) (γ9 : Gm (api_Inbox × Bool × (List api_Packet) × Int)) (γ16 : Gm (api_Inbox × api_Packet × Int)) (γ19 : Gm (Bool)) (γ14 : Gm (Int)) (Λ2 J : Lam) : bodyC SE (C8 Γ γ9 γ16 γ19 γ14) Λ2 J 8 [] [] [] =
 γ9 [.agg [.d (.sl [.int .i64] (List.map (encI .i64) []))], .agg [.d (.int .i64 3), .d (.int .i64 7), .d (.bool false), .d (.str ([116] : Str)), .d (.str ([] : Str)), .d (.int .i64 2), .d (.bool false), .d (.int .i64 0), .d (.int .i64 0), .d (.str ([] : Str)), .d (.int .i64 0), .d (.sl api_Prop.ks (List.map api_Prop.enc [])), .d (.str ([] : Str)), .d (.str ([] : Str)), .d (.bool false), .d (.int .i64 0), .d (.int .i64 0), .d (.int .i64 0), .d (.bool false), .d (.int .i64 0), .d (.str ([] : Str)), .d (.str ([] : Str)), .d (.int .i64 0), .d (.bool false), .d (.int .i64 0), .d (.int .i64 0), .d (.str ([] : Str)), .d (.int .i64 0), .d (.sl api_Prop.ks (List.map api_Prop.enc [])), .d (.bool false), .d (.int .i64 0), .d (.sl api_Sub.ks (List.map api_Sub.enc [])), .d (.sl [.str] (List.map encS [])), .d (.sl [.int .i64] (List.map (encI .i64) []))]] [] [] fun r0 =>
 γ9 [api_Inbox.av r0.1, .agg [.d (.int .i64 3), .d (.int .i64 7), .d (.bool false), .d (.str ([116] : Str)), .d (.str ([] : Str)), .d (.int .i64 2), .d (.bool false), .d (.int .i64 0), .d (.int .i64 0), .d (.str ([] : Str)), .d (.int .i64 0), .d (.sl api_Prop.ks (List.map api_Prop.enc [])), .d (.str ([] : Str)), .d (.str ([] : Str)), .d (.bool false), .d (.int .i64 0), .d (.int .i64 0), .d (.int .i64 0), .d (.bool false), .d (.int .i64 0), .d (.str ([] : Str)), .d (.str ([] : Str)), .d (.int .i64 0), .d (.bool false), .d (.int .i64 0), .d (.int .i64 0), .d (.str ([] : Str)), .d (.int .i64 0), .d (.sl api_Prop.ks (List.map api_Prop.enc [])), .d (.bool false), .d (.int .i64 0), .d (.sl api_Sub.ks (List.map api_Sub.enc [])), .d (.sl [.str] (List.map encS [])), .d (.sl [.int .i64] (List.map (encI .i64) []))]] [] [] fun r1 =>
 γ16 [api_Inbox.av r0.1, .agg [.d (.int .i64 6), .d (.int .i64 7), .d (.bool false), .d (.str ([] : Str)), .d (.str ([] : Str)), .d (.int .i64 0), .d (.bool false), .d (.int .i64 0), .d (.int .i64 0), .d (.str ([] : Str)), .d (.int .i64 0), .d (.sl api_Prop.ks (List.map api_Prop.enc [])), .d (.str ([] : Str)), .d (.str ([] : Str)), .d (.bool false), .d (.int .i64 0), .d (.int .i64 0), .d (.int .i64 0), .d (.bool false), .d (.int .i64 0), .d (.str ([] : Str)), .d (.str ([] : Str)), .d (.int .i64 0), .d (.bool false), .d (.int .i64 0), .d (.int .i64 0), .d (.str ([] : Str)), .d (.int .i64 0), .d (.sl api_Prop.ks (List.map api_Prop.enc [])), .d (.bool false), .d (.int .i64 0), .d (.sl api_Sub.ks (List.map api_Sub.enc [])), .d (.sl [.str] (List.map encS [])), .d (.sl [.int .i64] (List.map (encI .i64) []))]] [] [] fun r2 =>
 cond (r0.2.2.2 == 0) (
 cond (r1.2.2.2 == 0) (
  cond (r2.2.2 == 0) (
  cond r0.2.1 (
   cond (!r1.2.1) (
   cond ((List.length (List.map api_Packet.enc r0.2.2.1) : Int) == 1) (
    cond (decide (0 ≤ 0) && decide (0 < (List.length (List.map api_Packet.enc r0.2.2.1) : Int))) (
    cond ((dInt (cellAt (elemAt (List.map api_Packet.enc r0.2.2.1) (Int.toNat 0)) 0)) == 5) (
     cond (decide (0 ≤ 0) && decide (0 < (List.length (List.map api_Packet.enc r0.2.2.1) : Int))) (
     cond ((dInt (cellAt (elemAt (List.map api_Packet.enc r0.2.2.1) (Int.toNat 0)) 1)) == 7) (
      cond ((List.length (List.map api_Packet.enc r1.2.2.1) : Int) == 1) (
      γ19 [api_Inbox.av r0.1, .d (.int .i64 7)] [] [] fun r3 =>
      cond r3 (
       γ19 [api_Inbox.av r2.1, .d (.int .i64 7)] [] [] fun r4 =>
       cond (!r4) (
       cond (r2.2.1.Kind == 7) (
        cond (r2.2.1.ID == 7) (
        γ14 [api_Inbox.av (api_Inbox.mk [2, 1])] [] [] fun r5 =>
        (some (.ret [.d (.bool (r5 == 15))] [] []))) (
        (some (.ret [.d (.bool false)] [] [])))) (
       (some (.ret [.d (.bool false)] [] [])))) (
       (some (.ret [.d (.bool false)] [] [])))) (
      (some (.ret [.d (.bool false)] [] [])))) (
      (some (.ret [.d (.bool false)] [] [])))) (
     (some (.ret [.d (.bool false)] [] [])))) none) (
    (some (.ret [.d (.bool false)] [] [])))) none) (
   (some (.ret [.d (.bool false)] [] [])))) (
   (some (.ret [.d (.bool false)] [] [])))) (
  (some (.ret [.d (.bool false)] [] [])))) (
  (some (.ret [.d (.bool false)] [] [])))) (
 (some (.ret [.d (.bool false)] [] [])))) (
 (some (.ret [.d (.bool false)] [] []))) := by kernel_rfl
abbrev X8 : CFun := C8 (callG SE good) (callT SE good 9 inbound_Accept_out) (callT SE good 16 inbound_Release_out) (callT SE good 19 inbound_Has_out) (callT SE good 14 inbound_Check_out)
theorem Cr8 : C8 (callG SE good) (callT SE good 9 inbound_Accept_out) (callT SE good 16 inbound_Release_out) (callT SE good 19 inbound_Has_out) (callT SE good 14 inbound_Check_out) = bindC (callG SE good) := by unfold C8; rw [updC_real (fun _ h => h), updC_real (fun _ h => h), updC_real (fun _ h => h), updC_real (fun _ h => h)]
theorem brokerlaw15_awake_ok : Le (Option.map brokerlaw15_awake_out (brokerlaw15_awake)) (callW SE 8 [] [] []) := by
 refine le_bodyC Cr8 rfl ?_
 refine Le.trans ?_ (le_of_eq (T8 _ _ _ _ _ _ _ ).symm)
 unfold brokerlaw15_awake
 refine le_call (good := good) eX inbound_Accept_inj (by first | (simp only [EN]; exact inbound_Accept_ok (api_Inbox.mk ([] : List Int)) ((api_Packet.mk 3 7 false (api_Message.mk ([116] : Str) ([] : Str) 2 false 0 0 ([] : Str) 0 ([] : List api_Prop)) ([] : Str) ([] : Str) false 0 0 0 (api_Will.mk false 0 (api_Message.mk ([] : Str) ([] : Str) 0 false 0 0 ([] : Str) 0 ([] : List api_Prop))) false 0 ([] : List api_Sub) ([] : List Str) ([] : List Int)))) | exact inbound_Accept_ok (api_Inbox.mk ([] : List Int)) ((api_Packet.mk 3 7 false (api_Message.mk ([116] : Str) ([] : Str) 2 false 0 0 ([] : Str) 0 ([] : List api_Prop)) ([] : Str) ([] : Str) false 0 0 0 (api_Will.mk false 0 (api_Message.mk ([] : Str) ([] : Str) 0 false 0 0 ([] : Str) 0 ([] : List api_Prop))) false 0 ([] : List api_Sub) ([] : List Str) ([] : List Int)))) (fun r0 _ => ?_)
 refine le_call (good := good) eX inbound_Accept_inj (by first | (simp only [EN]; exact inbound_Accept_ok r0.1 ((api_Packet.mk 3 7 false (api_Message.mk ([116] : Str) ([] : Str) 2 false 0 0 ([] : Str) 0 ([] : List api_Prop)) ([] : Str) ([] : Str) false 0 0 0 (api_Will.mk false 0 (api_Message.mk ([] : Str) ([] : Str) 0 false 0 0 ([] : Str) 0 ([] : List api_Prop))) false 0 ([] : List api_Sub) ([] : List Str) ([] : List Int)))) | exact inbound_Accept_ok r0.1 ((api_Packet.mk 3 7 false (api_Message.mk ([116] : Str) ([] : Str) 2 false 0 0 ([] : Str) 0 ([] : List api_Prop)) ([] : Str) ([] : Str) false 0 0 0 (api_Will.mk false 0 (api_Message.mk ([] : Str) ([] : Str) 0 false 0 0 ([] : Str) 0 ([] : List api_Prop))) false 0 ([] : List api_Sub) ([] : List Str) ([] : List Int)))) (fun r1 _ => ?_)
 refine le_call (good := good) eX inbound_Release_inj (by first | (simp only [EN]; exact inbound_Release_ok r0.1 ((api_Packet.mk 6 7 false (api_Message.mk ([] : Str) ([] : Str) 0 false 0 0 ([] : Str) 0 ([] : List api_Prop)) ([] : Str) ([] : Str) false 0 0 0 (api_Will.mk false 0 (api_Message.mk ([] : Str) ([] : Str) 0 false 0 0 ([] : Str) 0 ([] : List api_Prop))) false 0 ([] : List api_Sub) ([] : List Str) ([] : List Int)))) | exact inbound_Release_ok r0.1 ((api_Packet.mk 6 7 false (api_Message.mk ([] : Str) ([] : Str) 0 false 0 0 ([] : Str) 0 ([] : List api_Prop)) ([] : Str) ([] : Str) false 0 0 0 (api_Will.mk false 0 (api_Message.mk ([] : Str) ([] : Str) 0 false 0 0 ([] : Str) 0 ([] : List api_Prop))) false 0 ([] : List api_Sub) ([] : List Str) ([] : List Int)))) (fun r2 _ => ?_)
 refine lC ?_ ?_
 ·refine lC ?_ ?_
  ·refine lC ?_ ?_
   ·refine lC ?_ ?_
    ·refine lC ?_ ?_
     ·refine le_cond (by simp only [EN]) (fun _ => ?_) (fun _ => ?_)
      ·refine le_cond (by simp only [EN]) (fun _ => ?_) (fun _ => le_none)
       refine le_cond (by simp only [EN]) (fun _ => ?_) (fun _ => ?_)
       ·refine le_cond (by simp only [EN]) (fun _ => ?_) (fun _ => le_none)
        refine le_cond (by simp only [EN]) (fun _ => ?_) (fun _ => ?_)
        ·refine le_cond (by simp only [EN]) (fun _ => ?_) (fun _ => ?_)
         ·refine le_call (good := good) eX inbound_Has_inj (inbound_Has_ok r0.1 7) (fun r3 _ => ?_)
          refine lC ?_ ?_
          ·refine le_call (good := good) eX inbound_Has_inj (inbound_Has_ok r2.1 7) (fun r4 _ => ?_)
           refine lC ?_ ?_
           ·refine lC ?_ ?_
            ·refine lC ?_ ?_
             ·refine le_call (good := good) eX inbound_Check_inj (inbound_Check_ok (api_Inbox.mk [2, 1])) (fun r5 _ => ?_)
              exact le_ret (by first | rfl | simp only [EN, brokerlaw15_awake_out] <;> rfl)
             ·exact le_ret (by first | rfl | simp only [EN, brokerlaw15_awake_out] <;> rfl)
            ·exact le_ret (by first | rfl | simp only [EN, brokerlaw15_awake_out] <;> rfl)
           ·exact le_ret (by first | rfl | simp only [EN, brokerlaw15_awake_out] <;> rfl)
          ·exact le_ret (by first | rfl | simp only [EN, brokerlaw15_awake_out] <;> rfl)
         ·exact le_ret (by first | rfl | simp only [EN, brokerlaw15_awake_out] <;> rfl)
        ·exact le_ret (by first | rfl | simp only [EN, brokerlaw15_awake_out] <;> rfl)
       ·exact le_ret (by first | rfl | simp only [EN, brokerlaw15_awake_out] <;> rfl)
      ·exact le_ret (by first | rfl | simp only [EN, brokerlaw15_awake_out] <;> rfl)
     ·exact le_ret (by first | rfl | simp only [EN, brokerlaw15_awake_out] <;> rfl)
    ·exact le_ret (by first | rfl | simp only [EN, brokerlaw15_awake_out] <;> rfl)
   ·exact le_ret (by first | rfl | simp only [EN, brokerlaw15_awake_out] <;> rfl)
  ·exact le_ret (by first | rfl | simp only [EN, brokerlaw15_awake_out] <;> rfl)
 ·exact le_ret (by first | rfl | simp only [EN, brokerlaw15_awake_out] <;> rfl)
def C31 (Γ : Fun)  : CFun := bindC Γ
def R31_23 (C : CFun) (Λ2 J : Lam) (a0 : (List D)) (a1 : (List D)) (a2 : (List D)) : Res := lab SE C Λ2 J 31 0 [1, 1, 1, 1, 1, 1, 1, 1, 1, 0, 0] (stoOf [(1, .ptr 1000000000 0), (2, .ptr 1000000001 0), (3, .ptr 1000000002 0)] [⟨33, (List.map AV.d a0)⟩, ⟨33, (List.map AV.d a1)⟩, ⟨33, (List.map AV.d a2)⟩] [] [] [])
def R31_21 (C : CFun) (Λ2 J : Lam) (a0 : (List D)) (a1 : (List D)) (a2 : (List D)) : Res := lab SE C Λ2 J 31 0 [1, 1, 1, 1, 1, 1, 1, 1, 0, 0] (stoOf [(1, .ptr 1000000000 0), (2, .ptr 1000000001 0), (3, .ptr 1000000002 0)] [⟨33, (List.map AV.d a0)⟩, ⟨33, (List.map AV.d a1)⟩, ⟨33, (List.map AV.d a2)⟩] [] [] [])
def R31_19 (C : CFun) (Λ2 J : Lam) (a0 : (List D)) (a1 : (List D)) (a2 : (List D)) : Res := lab SE C Λ2 J 31 0 [1, 1, 1, 1, 1, 1, 1, 0, 0] (stoOf [(1, .ptr 1000000000 0), (2, .ptr 1000000001 0), (3, .ptr 1000000002 0)] [⟨33, (List.map AV.d a0)⟩, ⟨33, (List.map AV.d a1)⟩, ⟨33, (List.map AV.d a2)⟩] [] [] [])
def R31_16 (C : CFun) (Λ2 J : Lam) (a0 : (List D)) (a1 : (List D)) (a2 : (List D)) : Res := lab SE C Λ2 J 31 0 [1, 1, 1, 1, 1, 1, 0, 0] (stoOf [(1, .ptr 1000000000 0), (2, .ptr 1000000001 0), (3, .ptr 1000000002 0)] [⟨33, (List.map AV.d a0)⟩, ⟨33, (List.map AV.d a1)⟩, ⟨33, (List.map AV.d a2)⟩] [] [] [])
def R31_14 (C : CFun) (Λ2 J : Lam) (a0 : (List D)) (a1 : (List D)) (a2 : (List D)) : Res := lab SE C Λ2 J 31 0 [1, 1, 1, 1, 1, 0, 0] (stoOf [(1, .ptr 1000000000 0), (2, .ptr 1000000001 0), (3, .ptr 1000000002 0)] [⟨33, (List.map AV.d a0)⟩, ⟨33, (List.map AV.d a1)⟩, ⟨33, (List.map AV.d a2)⟩] [] [] [])
def R31_12 (C : CFun) (Λ2 J : Lam) (a0 : (List D)) (a1 : (List D)) (a2 : (List D)) : Res := lab SE C Λ2 J 31 0 [1, 1, 1, 1, 0, 0] (stoOf [(1, .ptr 1000000000 0), (2, .ptr 1000000001 0), (3, .ptr 1000000002 0)] [⟨33, (List.map AV.d a0)⟩, ⟨33, (List.map AV.d a1)⟩, ⟨33, (List.map AV.d a2)⟩] [] [] [])
def R31_4 (C : CFun) (Λ2 J : Lam) (a0 : (List D)) (a1 : (List D)) (a2 : (List D)) : Res := lab SE C Λ2 J 31 0 [1, 1, 1, 0, 0] (stoOf [(1, .ptr 1000000000 0), (2, .ptr 1000000001 0), (3, .ptr 1000000002 0)] [⟨33, (List.map AV.d a0)⟩, ⟨33, (List.map AV.d a1)⟩, ⟨33, (List.map AV.d a2)⟩] [] [] [])
theorem T31 (Γ : Fun)  (Λ2 J : Lam) (p0 : api_Packet) : bodyC SE (C31 Γ) Λ2 J 31 [api_Packet.av p0] [] [] =
 cond (p0.Kind == 3) (
 R31_4 (C31 Γ) Λ2 J (api_Packet.enc p0) [D.int .i64 0, D.int .i64 0, D.bool false, D.str ([] : Str), D.str ([] : Str), D.int .i64 0, D.bool false, D.int .i64 0, D.int .i64 0, D.str ([] : Str), D.int .i64 0, D.sl api_Prop.ks (List.map api_Prop.enc []), D.str ([] : Str), D.str ([] : Str), D.bool false, D.int .i64 0, D.int .i64 0, D.int .i64 0, D.bool false, D.int .i64 0, D.str ([] : Str), D.str ([] : Str), D.int .i64 0, D.bool false, D.int .i64 0, D.int .i64 0, D.str ([] : Str), D.int .i64 0, D.sl api_Prop.ks (List.map api_Prop.enc []), D.bool false, D.int .i64 0, D.sl api_Sub.ks (List.map api_Sub.enc []), D.sl [.str] (List.map encS []), D.sl [.int .i64] (List.map (encI .i64) [])] [D.int .i64 p0.Kind, D.int .i64 p0.ID, D.bool false, D.str ([] : Str), D.str ([] : Str), D.int .i64 0, D.bool false, D.int .i64 0, D.int .i64 0, D.str ([] : Str), D.int .i64 0, D.sl api_Prop.ks (List.map api_Prop.enc []), D.str ([] : Str), D.str ([] : Str), D.bool false, D.int .i64 0, D.int .i64 0, D.int .i64 0, D.bool false, D.int .i64 0, D.str ([] : Str), D.str ([] : Str), D.int .i64 0, D.bool false, D.int .i64 0, D.int .i64 0, D.str ([] : Str), D.int .i64 0, D.sl api_Prop.ks (List.map api_Prop.enc []), D.bool false, D.int .i64 0, D.sl api_Sub.ks (List.map api_Sub.enc []), D.sl [.str] (List.map encS []), D.sl [.int .i64] (List.map (encI .i64) [])]) (
 cond (decide (p0.Kind ≥ 4)) (
 cond (decide (p0.Kind ≤ 11)) (
  R31_4 (C31 Γ) Λ2 J (api_Packet.enc p0) [D.int .i64 0, D.int .i64 0, D.bool false, D.str ([] : Str), D.str ([] : Str), D.int .i64 0, D.bool false, D.int .i64 0, D.int .i64 0, D.str ([] : Str), D.int .i64 0, D.sl api_Prop.ks (List.map api_Prop.enc []), D.str ([] : Str), D.str ([] : Str), D.bool false, D.int .i64 0, D.int .i64 0, D.int .i64 0, D.bool false, D.int .i64 0, D.str ([] : Str), D.str ([] : Str), D.int .i64 0, D.bool false, D.int .i64 0, D.int .i64 0, D.str ([] : Str), D.int .i64 0, D.sl api_Prop.ks (List.map api_Prop.enc []), D.bool false, D.int .i64 0, D.sl api_Sub.ks (List.map api_Sub.enc []), D.sl [.str] (List.map encS []), D.sl [.int .i64] (List.map (encI .i64) [])] [D.int .i64 p0.Kind, D.int .i64 p0.ID, D.bool false, D.str ([] : Str), D.str ([] : Str), D.int .i64 0, D.bool false, D.int .i64 0, D.int .i64 0, D.str ([] : Str), D.int .i64 0, D.sl api_Prop.ks (List.map api_Prop.enc []), D.str ([] : Str), D.str ([] : Str), D.bool false, D.int .i64 0, D.int .i64 0, D.int .i64 0, D.bool false, D.int .i64 0, D.str ([] : Str), D.str ([] : Str), D.int .i64 0, D.bool false, D.int .i64 0, D.int .i64 0, D.str ([] : Str), D.int .i64 0, D.sl api_Prop.ks (List.map api_Prop.enc []), D.bool false, D.int .i64 0, D.sl api_Sub.ks (List.map api_Sub.enc []), D.sl [.str] (List.map encS []), D.sl [.int .i64] (List.map (encI .i64) [])]) (
 R31_4 (C31 Γ) Λ2 J (api_Packet.enc p0) [D.int .i64 0, D.int .i64 0, D.bool false, D.str ([] : Str), D.str ([] : Str), D.int .i64 0, D.bool false, D.int .i64 0, D.int .i64 0, D.str ([] : Str), D.int .i64 0, D.sl api_Prop.ks (List.map api_Prop.enc []), D.str ([] : Str), D.str ([] : Str), D.bool false, D.int .i64 0, D.int .i64 0, D.int .i64 0, D.bool false, D.int .i64 0, D.str ([] : Str), D.str ([] : Str), D.int .i64 0, D.bool false, D.int .i64 0, D.int .i64 0, D.str ([] : Str), D.int .i64 0, D.sl api_Prop.ks (List.map api_Prop.enc []), D.bool false, D.int .i64 0, D.sl api_Sub.ks (List.map api_Sub.enc []), D.sl [.str] (List.map encS []), D.sl [.int .i64] (List.map (encI .i64) [])] [D.int .i64 p0.Kind, D.int .i64 0, D.bool false, D.str ([] : Str), D.str ([] : Str), D.int .i64 0, D.bool false, D.int .i64 0, D.int .i64 0, D.str ([] : Str), D.int .i64 0, D.sl api_Prop.ks (List.map api_Prop.enc []), D.str ([] : Str), D.str ([] : Str), D.bool false, D.int .i64 0, D.int .i64 0, D.int .i64 0, D.bool false, D.int .i64 0, D.str ([] : Str), D.str ([] : Str), D.int .i64 0, D.bool false, D.int .i64 0, D.int .i64 0, D.str ([] : Str), D.int .i64 0, D.sl api_Prop.ks (List.map api_Prop.enc []), D.bool false, D.int .i64 0, D.sl api_Sub.ks (List.map api_Sub.enc []), D.sl [.str] (List.map encS []), D.sl [.int .i64] (List.map (encI .i64) [])])) (
 R31_4 (C31 Γ) Λ2 J (api_Packet.enc p0) [D.int .i64 0, D.int .i64 0, D.bool false, D.str ([] : Str), D.str ([] : Str), D.int .i64 0, D.bool false, D.int .i64 0, D.int .i64 0, D.str ([] : Str), D.int .i64 0, D.sl api_Prop.ks (List.map api_Prop.enc []), D.str ([] : Str), D.str ([] : Str), D.bool false, D.int .i64 0, D.int .i64 0, D.int .i64 0, D.bool false, D.int .i64 0, D.str ([] : Str), D.str ([] : Str), D.int .i64 0, D.bool false, D.int .i64 0, D.int .i64 0, D.str ([] : Str), D.int .i64 0, D.sl api_Prop.ks (List.map api_Prop.enc []), D.bool false, D.int .i64 0, D.sl api_Sub.ks (List.map api_Sub.enc []), D.sl [.str] (List.map encS []), D.sl [.int .i64] (List.map (encI .i64) [])] [D.int .i64 p0.Kind, D.int .i64 0, D.bool false, D.str ([] : Str), D.str ([] : Str), D.int .i64 0, D.bool false, D.int .i64 0, D.int .i64 0, D.str ([] : Str), D.int .i64 0, D.sl api_Prop.ks (List.map api_Prop.enc []), D.str ([] : Str), D.str ([] : Str), D.bool false, D.int .i64 0, D.int .i64 0, D.int .i64 0, D.bool false, D.int .i64 0, D.str ([] : Str), D.str ([] : Str), D.int .i64 0, D.bool false, D.int .i64 0, D.int .i64 0, D.str ([] : Str), D.int .i64 0, D.sl api_Prop.ks (List.map api_Prop.enc []), D.bool false, D.int .i64 0, D.sl api_Sub.ks (List.map api_Sub.enc []), D.sl [.str] (List.map encS []), D.sl [.int .i64] (List.map (encI .i64) [])])) := by kernel_rfl
theorem T31_23 (Γ : Fun)  (Λ2 J : Lam) (b0 : api_Packet) (b1 : api_Packet) (b2 : api_Packet) : labU SE (C31 Γ) Λ2 J 31 0 [1, 1, 1, 1, 1, 1, 1, 1, 1, 0, 0] (stoOf [(1, .ptr 1000000000 0), (2, .ptr 1000000001 0), (3, .ptr 1000000002 0)] [⟨33, (List.map AV.d (api_Packet.enc b0))⟩, ⟨33, (List.map AV.d (api_Packet.enc b1))⟩, ⟨33, (List.map AV.d (api_Packet.enc b2))⟩] [] [] []) =
 cond (b0.Kind == 9) (
 (some (.ret [api_Packet.av (api_Packet.mk b2.Kind b2.ID b2.Dup b2.Message b2.Client b2.User b2.Clean b2.Keep b2.Expiry b2.Window b2.Will b2.Present b2.Code b2.Subs b2.Filters b0.Codes)] [] []))) (
 cond (b0.Kind == 11) (
 (some (.ret [api_Packet.av (api_Packet.mk b2.Kind b2.ID b2.Dup b2.Message b2.Client b2.User b2.Clean b2.Keep b2.Expiry b2.Window b2.Will b2.Present b2.Code b2.Subs b2.Filters b0.Codes)] [] []))) (
 (some (.ret [api_Packet.av b2] [] [])))) := by kernel_rfl
theorem T31_21 (Γ : Fun)  (Λ2 J : Lam) (b0 : api_Packet) (b1 : api_Packet) (b2 : api_Packet) : labU SE (C31 Γ) Λ2 J 31 0 [1, 1, 1, 1, 1, 1, 1, 1, 0, 0] (stoOf [(1, .ptr 1000000000 0), (2, .ptr 1000000001 0), (3, .ptr 1000000002 0)] [⟨33, (List.map AV.d (api_Packet.enc b0))⟩, ⟨33, (List.map AV.d (api_Packet.enc b1))⟩, ⟨33, (List.map AV.d (api_Packet.enc b2))⟩] [] [] []) =
 cond (b0.Kind == 10) (
 R31_23 (C31 Γ) Λ2 J (api_Packet.enc b0) (api_Packet.enc b1) (api_Packet.enc (api_Packet.mk b2.Kind b2.ID b2.Dup b2.Message b2.Client b2.User b2.Clean b2.Keep b2.Expiry b2.Window b2.Will b2.Present b2.Code b2.Subs b0.Filters b2.Codes))) (
 R31_23 (C31 Γ) Λ2 J (api_Packet.enc b0) (api_Packet.enc b1) (api_Packet.enc b2)) := by kernel_rfl
theorem T31_19 (Γ : Fun)  (Λ2 J : Lam) (b0 : api_Packet) (b1 : api_Packet) (b2 : api_Packet) : labU SE (C31 Γ) Λ2 J 31 0 [1, 1, 1, 1, 1, 1, 1, 0, 0] (stoOf [(1, .ptr 1000000000 0), (2, .ptr 1000000001 0), (3, .ptr 1000000002 0)] [⟨33, (List.map AV.d (api_Packet.enc b0))⟩, ⟨33, (List.map AV.d (api_Packet.enc b1))⟩, ⟨33, (List.map AV.d (api_Packet.enc b2))⟩] [] [] []) =
 cond (b0.Kind == 8) (
 R31_21 (C31 Γ) Λ2 J (api_Packet.enc b0) (api_Packet.enc b1) (api_Packet.enc (api_Packet.mk b2.Kind b2.ID b2.Dup b2.Message b2.Client b2.User b2.Clean b2.Keep b2.Expiry b2.Window b2.Will b2.Present b2.Code b0.Subs b2.Filters b2.Codes))) (
 R31_21 (C31 Γ) Λ2 J (api_Packet.enc b0) (api_Packet.enc b1) (api_Packet.enc b2)) := by kernel_rfl
theorem T31_16 (Γ : Fun)  (Λ2 J : Lam) (b0 : api_Packet) (b1 : api_Packet) (b2 : api_Packet) : labU SE (C31 Γ) Λ2 J 31 0 [1, 1, 1, 1, 1, 1, 0, 0] (stoOf [(1, .ptr 1000000000 0), (2, .ptr 1000000001 0), (3, .ptr 1000000002 0)] [⟨33, (List.map AV.d (api_Packet.enc b0))⟩, ⟨33, (List.map AV.d (api_Packet.enc b1))⟩, ⟨33, (List.map AV.d (api_Packet.enc b2))⟩] [] [] []) =
 cond (b0.Kind == 3) (
 R31_19 (C31 Γ) Λ2 J (api_Packet.enc b0) (api_Packet.enc b1) (api_Packet.enc (api_Packet.mk b2.Kind b2.ID b0.Dup b0.Message b2.Client b2.User b2.Clean b2.Keep b2.Expiry b2.Window b2.Will b2.Present b2.Code b2.Subs b2.Filters b2.Codes))) (
 R31_19 (C31 Γ) Λ2 J (api_Packet.enc b0) (api_Packet.enc b1) (api_Packet.enc b2)) := by kernel_rfl
theorem T31_14 (Γ : Fun)  (Λ2 J : Lam) (b0 : api_Packet) (b1 : api_Packet) (b2 : api_Packet) : labU SE (C31 Γ) Λ2 J 31 0 [1, 1, 1, 1, 1, 0, 0] (stoOf [(1, .ptr 1000000000 0), (2, .ptr 1000000001 0), (3, .ptr 1000000002 0)] [⟨33, (List.map AV.d (api_Packet.enc b0))⟩, ⟨33, (List.map AV.d (api_Packet.enc b1))⟩, ⟨33, (List.map AV.d (api_Packet.enc b2))⟩] [] [] []) =
 cond (b0.Kind == 2) (
 R31_16 (C31 Γ) Λ2 J (api_Packet.enc b0) (api_Packet.enc b1) (api_Packet.enc (api_Packet.mk b2.Kind b2.ID b2.Dup b2.Message b2.Client b2.User b2.Clean b2.Keep b2.Expiry b2.Window b2.Will b2.Present b0.Code b2.Subs b2.Filters b2.Codes))) (
 cond (b0.Kind == 14) (
 R31_16 (C31 Γ) Λ2 J (api_Packet.enc b0) (api_Packet.enc b1) (api_Packet.enc (api_Packet.mk b2.Kind b2.ID b2.Dup b2.Message b2.Client b2.User b2.Clean b2.Keep b2.Expiry b2.Window b2.Will b2.Present b0.Code b2.Subs b2.Filters b2.Codes))) (
 R31_16 (C31 Γ) Λ2 J (api_Packet.enc b0) (api_Packet.enc b1) (api_Packet.enc b2))) := by kernel_rfl
theorem T31_12 (Γ : Fun)  (Λ2 J : Lam) (b0 : api_Packet) (b1 : api_Packet) (b2 : api_Packet) : labU SE (C31 Γ) Λ2 J 31 0 [1, 1, 1, 1, 0, 0] (stoOf [(1, .ptr 1000000000 0), (2, .ptr 1000000001 0), (3, .ptr 1000000002 0)] [⟨33, (List.map AV.d (api_Packet.enc b0))⟩, ⟨33, (List.map AV.d (api_Packet.enc b1))⟩, ⟨33, (List.map AV.d (api_Packet.enc b2))⟩] [] [] []) =
 cond (b0.Kind == 2) (
 R31_14 (C31 Γ) Λ2 J (api_Packet.enc b0) (api_Packet.enc b1) (api_Packet.enc (api_Packet.mk b2.Kind b2.ID b2.Dup b2.Message b2.Client b2.User b2.Clean b2.Keep b2.Expiry b2.Window b2.Will b0.Present b2.Code b2.Subs b2.Filters b2.Codes))) (
 R31_14 (C31 Γ) Λ2 J (api_Packet.enc b0) (api_Packet.enc b1) (api_Packet.enc b2)) := by kernel_rfl
theorem T31_4 (Γ : Fun)  (Λ2 J : Lam) (b0 : api_Packet) (b1 : api_Packet) (b2 : api_Packet) : labU SE (C31 Γ) Λ2 J 31 0 [1, 1, 1, 0, 0] (stoOf [(1, .ptr 1000000000 0), (2, .ptr 1000000001 0), (3, .ptr 1000000002 0)] [⟨33, (List.map AV.d (api_Packet.enc b0))⟩, ⟨33, (List.map AV.d (api_Packet.enc b1))⟩, ⟨33, (List.map AV.d (api_Packet.enc b2))⟩] [] [] []) =
 cond (b0.Kind == 1) (
 R31_12 (C31 Γ) Λ2 J (api_Packet.enc b0) (api_Packet.enc b1) (api_Packet.enc (api_Packet.mk b2.Kind b2.ID b2.Dup b2.Message b0.Client b0.User b0.Clean b0.Keep b0.Expiry b0.Window b0.Will b2.Present b2.Code b2.Subs b2.Filters b2.Codes))) (
 R31_12 (C31 Γ) Λ2 J (api_Packet.enc b0) (api_Packet.enc b1) (api_Packet.enc b2)) := by kernel_rfl
abbrev X31 : CFun := C31 (callG SE good)
theorem Cr31 : C31 (callG SE good) = bindC (callG SE good) := by unfold C31; rfl
noncomputable abbrev Q31_23 (a0 : (List D)) (a1 : (List D)) (a2 : (List D)) : Res := R31_23 X31 (lam2 SE (callG SE good) (SE.hl 31) (SE.hr 31)) (J0 SE X31) a0 a1 a2
noncomputable abbrev Q31_21 (a0 : (List D)) (a1 : (List D)) (a2 : (List D)) : Res := R31_21 X31 (lam2 SE (callG SE good) (SE.hl 31) (SE.hr 31)) (J0 SE X31) a0 a1 a2
noncomputable abbrev Q31_19 (a0 : (List D)) (a1 : (List D)) (a2 : (List D)) : Res := R31_19 X31 (lam2 SE (callG SE good) (SE.hl 31) (SE.hr 31)) (J0 SE X31) a0 a1 a2
noncomputable abbrev Q31_16 (a0 : (List D)) (a1 : (List D)) (a2 : (List D)) : Res := R31_16 X31 (lam2 SE (callG SE good) (SE.hl 31) (SE.hr 31)) (J0 SE X31) a0 a1 a2
noncomputable abbrev Q31_14 (a0 : (List D)) (a1 : (List D)) (a2 : (List D)) : Res := R31_14 X31 (lam2 SE (callG SE good) (SE.hl 31) (SE.hr 31)) (J0 SE X31) a0 a1 a2
noncomputable abbrev Q31_12 (a0 : (List D)) (a1 : (List D)) (a2 : (List D)) : Res := R31_12 X31 (lam2 SE (callG SE good) (SE.hl 31) (SE.hr 31)) (J0 SE X31) a0 a1 a2
noncomputable abbrev Q31_4 (a0 : (List D)) (a1 : (List D)) (a2 : (List D)) : Res := R31_4 X31 (lam2 SE (callG SE good) (SE.hl 31) (SE.hr 31)) (J0 SE X31) a0 a1 a2
theorem brokerref06_Used_j23_ok (b0 : api_Packet) (b1 : api_Packet) (b2 : api_Packet) : Le (Option.map brokerref06_Used_out (brokerref06_Used_j23 b0 b1 b2)) (Q31_23 (api_Packet.enc b0) (api_Packet.enc b1) (api_Packet.enc b2)) := by
 refine Le.trans ?_ (le_of_eq ((lab_realC Cr31).trans (T31_23 _ _ _  b0 b1 b2)).symm)
 unfold brokerref06_Used_j23
 refine lC ?_ ?_
 ·exact le_ret (by first | rfl | simp only [EN, brokerref06_Used_out] <;> rfl)
 ·refine lC ?_ ?_
  ·exact le_ret (by first | rfl | simp only [EN, brokerref06_Used_out] <;> rfl)
  ·exact le_ret (by first | rfl | simp only [EN, brokerref06_Used_out] <;> rfl)
theorem brokerref06_Used_j21_ok (b0 : api_Packet) (b1 : api_Packet) (b2 : api_Packet) : Le (Option.map brokerref06_Used_out (brokerref06_Used_j21 b0 b1 b2)) (Q31_21 (api_Packet.enc b0) (api_Packet.enc b1) (api_Packet.enc b2)) := by
 refine Le.trans ?_ (le_of_eq ((lab_realC Cr31).trans (T31_21 _ _ _  b0 b1 b2)).symm)
 unfold brokerref06_Used_j21
 refine lC ?_ ?_
 ·exact brokerref06_Used_j23_ok b0 b1 (api_Packet.mk b2.Kind b2.ID b2.Dup b2.Message b2.Client b2.User b2.Clean b2.Keep b2.Expiry b2.Window b2.Will b2.Present b2.Code b2.Subs b0.Filters b2.Codes)
 ·exact brokerref06_Used_j23_ok b0 b1 b2
theorem brokerref06_Used_j19_ok (b0 : api_Packet) (b1 : api_Packet) (b2 : api_Packet) : Le (Option.map brokerref06_Used_out (brokerref06_Used_j19 b0 b1 b2)) (Q31_19 (api_Packet.enc b0) (api_Packet.enc b1) (api_Packet.enc b2)) := by
 refine Le.trans ?_ (le_of_eq ((lab_realC Cr31).trans (T31_19 _ _ _  b0 b1 b2)).symm)
 unfold brokerref06_Used_j19
 refine lC ?_ ?_
 ·exact brokerref06_Used_j21_ok b0 b1 (api_Packet.mk b2.Kind b2.ID b2.Dup b2.Message b2.Client b2.User b2.Clean b2.Keep b2.Expiry b2.Window b2.Will b2.Present b2.Code b0.Subs b2.Filters b2.Codes)
 ·exact brokerref06_Used_j21_ok b0 b1 b2
theorem brokerref06_Used_j16_ok (b0 : api_Packet) (b1 : api_Packet) (b2 : api_Packet) : Le (Option.map brokerref06_Used_out (brokerref06_Used_j16 b0 b1 b2)) (Q31_16 (api_Packet.enc b0) (api_Packet.enc b1) (api_Packet.enc b2)) := by
 refine Le.trans ?_ (le_of_eq ((lab_realC Cr31).trans (T31_16 _ _ _  b0 b1 b2)).symm)
 unfold brokerref06_Used_j16
 refine lC ?_ ?_
 ·exact brokerref06_Used_j19_ok b0 b1 (api_Packet.mk b2.Kind b2.ID b0.Dup b0.Message b2.Client b2.User b2.Clean b2.Keep b2.Expiry b2.Window b2.Will b2.Present b2.Code b2.Subs b2.Filters b2.Codes)
 ·exact brokerref06_Used_j19_ok b0 b1 b2
theorem brokerref06_Used_j14_ok (b0 : api_Packet) (b1 : api_Packet) (b2 : api_Packet) : Le (Option.map brokerref06_Used_out (brokerref06_Used_j14 b0 b1 b2)) (Q31_14 (api_Packet.enc b0) (api_Packet.enc b1) (api_Packet.enc b2)) := by
 refine Le.trans ?_ (le_of_eq ((lab_realC Cr31).trans (T31_14 _ _ _  b0 b1 b2)).symm)
 unfold brokerref06_Used_j14
 refine lC ?_ ?_
 ·exact brokerref06_Used_j16_ok b0 b1 (api_Packet.mk b2.Kind b2.ID b2.Dup b2.Message b2.Client b2.User b2.Clean b2.Keep b2.Expiry b2.Window b2.Will b2.Present b0.Code b2.Subs b2.Filters b2.Codes)
 ·refine lC ?_ ?_
  ·exact brokerref06_Used_j16_ok b0 b1 (api_Packet.mk b2.Kind b2.ID b2.Dup b2.Message b2.Client b2.User b2.Clean b2.Keep b2.Expiry b2.Window b2.Will b2.Present b0.Code b2.Subs b2.Filters b2.Codes)
  ·exact brokerref06_Used_j16_ok b0 b1 b2
theorem brokerref06_Used_j12_ok (b0 : api_Packet) (b1 : api_Packet) (b2 : api_Packet) : Le (Option.map brokerref06_Used_out (brokerref06_Used_j12 b0 b1 b2)) (Q31_12 (api_Packet.enc b0) (api_Packet.enc b1) (api_Packet.enc b2)) := by
 refine Le.trans ?_ (le_of_eq ((lab_realC Cr31).trans (T31_12 _ _ _  b0 b1 b2)).symm)
 unfold brokerref06_Used_j12
 refine lC ?_ ?_
 ·exact brokerref06_Used_j14_ok b0 b1 (api_Packet.mk b2.Kind b2.ID b2.Dup b2.Message b2.Client b2.User b2.Clean b2.Keep b2.Expiry b2.Window b2.Will b0.Present b2.Code b2.Subs b2.Filters b2.Codes)
 ·exact brokerref06_Used_j14_ok b0 b1 b2
theorem brokerref06_Used_j4_ok (b0 : api_Packet) (b1 : api_Packet) (b2 : api_Packet) : Le (Option.map brokerref06_Used_out (brokerref06_Used_j4 b0 b1 b2)) (Q31_4 (api_Packet.enc b0) (api_Packet.enc b1) (api_Packet.enc b2)) := by
 refine Le.trans ?_ (le_of_eq ((lab_realC Cr31).trans (T31_4 _ _ _  b0 b1 b2)).symm)
 unfold brokerref06_Used_j4
 refine lC ?_ ?_
 ·exact brokerref06_Used_j12_ok b0 b1 (api_Packet.mk b2.Kind b2.ID b2.Dup b2.Message b0.Client b0.User b0.Clean b0.Keep b0.Expiry b0.Window b0.Will b2.Present b2.Code b2.Subs b2.Filters b2.Codes)
 ·exact brokerref06_Used_j12_ok b0 b1 b2
theorem brokerref06_Used_ok (p0 : api_Packet) : Le (Option.map brokerref06_Used_out (brokerref06_Used p0)) (callW SE 31 [api_Packet.av p0] [] []) := by
 refine le_bodyC Cr31 rfl ?_
 refine Le.trans ?_ (le_of_eq (T31 _ _ _  p0).symm)
 unfold brokerref06_Used
 refine lC ?_ ?_
 ·first | (simp only [EN]; exact brokerref06_Used_j4_ok p0 ((api_Packet.mk 0 0 false (api_Message.mk ([] : Str) ([] : Str) 0 false 0 0 ([] : Str) 0 ([] : List api_Prop)) ([] : Str) ([] : Str) false 0 0 0 (api_Will.mk false 0 (api_Message.mk ([] : Str) ([] : Str) 0 false 0 0 ([] : Str) 0 ([] : List api_Prop))) false 0 ([] : List api_Sub) ([] : List Str) ([] : List Int))) ((api_Packet.mk p0.Kind p0.ID false (api_Message.mk ([] : Str) ([] : Str) 0 false 0 0 ([] : Str) 0 ([] : List api_Prop)) ([] : Str) ([] : Str) false 0 0 0 (api_Will.mk false 0 (api_Message.mk ([] : Str) ([] : Str) 0 false 0 0 ([] : Str) 0 ([] : List api_Prop))) false 0 ([] : List api_Sub) ([] : List Str) ([] : List Int)))) | exact brokerref06_Used_j4_ok p0 ((api_Packet.mk 0 0 false (api_Message.mk ([] : Str) ([] : Str) 0 false 0 0 ([] : Str) 0 ([] : List api_Prop)) ([] : Str) ([] : Str) false 0 0 0 (api_Will.mk false 0 (api_Message.mk ([] : Str) ([] : Str) 0 false 0 0 ([] : Str) 0 ([] : List api_Prop))) false 0 ([] : List api_Sub) ([] : List Str) ([] : List Int))) ((api_Packet.mk p0.Kind p0.ID false (api_Message.mk ([] : Str) ([] : Str) 0 false 0 0 ([] : Str) 0 ([] : List api_Prop)) ([] : Str) ([] : Str) false 0 0 0 (api_Will.mk false 0 (api_Message.mk ([] : Str) ([] : Str) 0 false 0 0 ([] : Str) 0 ([] : List api_Prop))) false 0 ([] : List api_Sub) ([] : List Str) ([] : List Int)))
 ·refine lC ?_ ?_
  ·refine lC ?_ ?_
   ·first | (simp only [EN]; exact brokerref06_Used_j4_ok p0 ((api_Packet.mk 0 0 false (api_Message.mk ([] : Str) ([] : Str) 0 false 0 0 ([] : Str) 0 ([] : List api_Prop)) ([] : Str) ([] : Str) false 0 0 0 (api_Will.mk false 0 (api_Message.mk ([] : Str) ([] : Str) 0 false 0 0 ([] : Str) 0 ([] : List api_Prop))) false 0 ([] : List api_Sub) ([] : List Str) ([] : List Int))) ((api_Packet.mk p0.Kind p0.ID false (api_Message.mk ([] : Str) ([] : Str) 0 false 0 0 ([] : Str) 0 ([] : List api_Prop)) ([] : Str) ([] : Str) false 0 0 0 (api_Will.mk false 0 (api_Message.mk ([] : Str) ([] : Str) 0 false 0 0 ([] : Str) 0 ([] : List api_Prop))) false 0 ([] : List api_Sub) ([] : List Str) ([] : List Int)))) | exact brokerref06_Used_j4_ok p0 ((api_Packet.mk 0 0 false (api_Message.mk ([] : Str) ([] : Str) 0 false 0 0 ([] : Str) 0 ([] : List api_Prop)) ([] : Str) ([] : Str) false 0 0 0 (api_Will.mk false 0 (api_Message.mk ([] : Str) ([] : Str) 0 false 0 0 ([] : Str) 0 ([] : List api_Prop))) false 0 ([] : List api_Sub) ([] : List Str) ([] : List Int))) ((api_Packet.mk p0.Kind p0.ID false (api_Message.mk ([] : Str) ([] : Str) 0 false 0 0 ([] : Str) 0 ([] : List api_Prop)) ([] : Str) ([] : Str) false 0 0 0 (api_Will.mk false 0 (api_Message.mk ([] : Str) ([] : Str) 0 false 0 0 ([] : Str) 0 ([] : List api_Prop))) false 0 ([] : List api_Sub) ([] : List Str) ([] : List Int)))
   ·first | (simp only [EN]; exact brokerref06_Used_j4_ok p0 ((api_Packet.mk 0 0 false (api_Message.mk ([] : Str) ([] : Str) 0 false 0 0 ([] : Str) 0 ([] : List api_Prop)) ([] : Str) ([] : Str) false 0 0 0 (api_Will.mk false 0 (api_Message.mk ([] : Str) ([] : Str) 0 false 0 0 ([] : Str) 0 ([] : List api_Prop))) false 0 ([] : List api_Sub) ([] : List Str) ([] : List Int))) ((api_Packet.mk p0.Kind 0 false (api_Message.mk ([] : Str) ([] : Str) 0 false 0 0 ([] : Str) 0 ([] : List api_Prop)) ([] : Str) ([] : Str) false 0 0 0 (api_Will.mk false 0 (api_Message.mk ([] : Str) ([] : Str) 0 false 0 0 ([] : Str) 0 ([] : List api_Prop))) false 0 ([] : List api_Sub) ([] : List Str) ([] : List Int)))) | exact brokerref06_Used_j4_ok p0 ((api_Packet.mk 0 0 false (api_Message.mk ([] : Str) ([] : Str) 0 false 0 0 ([] : Str) 0 ([] : List api_Prop)) ([] : Str) ([] : Str) false 0 0 0 (api_Will.mk false 0 (api_Message.mk ([] : Str) ([] : Str) 0 false 0 0 ([] : Str) 0 ([] : List api_Prop))) false 0 ([] : List api_Sub) ([] : List Str) ([] : List Int))) ((api_Packet.mk p0.Kind 0 false (api_Message.mk ([] : Str) ([] : Str) 0 false 0 0 ([] : Str) 0 ([] : List api_Prop)) ([] : Str) ([] : Str) false 0 0 0 (api_Will.mk false 0 (api_Message.mk ([] : Str) ([] : Str) 0 false 0 0 ([] : Str) 0 ([] : List api_Prop))) false 0 ([] : List api_Sub) ([] : List Str) ([] : List Int)))
  ·first | (simp only [EN]; exact brokerref06_Used_j4_ok p0 ((api_Packet.mk 0 0 false (api_Message.mk ([] : Str) ([] : Str) 0 false 0 0 ([] : Str) 0 ([] : List api_Prop)) ([] : Str) ([] : Str) false 0 0 0 (api_Will.mk false 0 (api_Message.mk ([] : Str) ([] : Str) 0 false 0 0 ([] : Str) 0 ([] : List api_Prop))) false 0 ([] : List api_Sub) ([] : List Str) ([] : List Int))) ((api_Packet.mk p0.Kind 0 false (api_Message.mk ([] : Str) ([] : Str) 0 false 0 0 ([] : Str) 0 ([] : List api_Prop)) ([] : Str) ([] : Str) false 0 0 0 (api_Will.mk false 0 (api_Message.mk ([] : Str) ([] : Str) 0 false 0 0 ([] : Str) 0 ([] : List api_Prop))) false 0 ([] : List api_Sub) ([] : List Str) ([] : List Int)))) | exact brokerref06_Used_j4_ok p0 ((api_Packet.mk 0 0 false (api_Message.mk ([] : Str) ([] : Str) 0 false 0 0 ([] : Str) 0 ([] : List api_Prop)) ([] : Str) ([] : Str) false 0 0 0 (api_Will.mk false 0 (api_Message.mk ([] : Str) ([] : Str) 0 false 0 0 ([] : Str) 0 ([] : List api_Prop))) false 0 ([] : List api_Sub) ([] : List Str) ([] : List Int))) ((api_Packet.mk p0.Kind 0 false (api_Message.mk ([] : Str) ([] : Str) 0 false 0 0 ([] : Str) 0 ([] : List api_Prop)) ([] : Str) ([] : Str) false 0 0 0 (api_Will.mk false 0 (api_Message.mk ([] : Str) ([] : Str) 0 false 0 0 ([] : Str) 0 ([] : List api_Prop))) false 0 ([] : List api_Sub) ([] : List Str) ([] : List Int)))
def C75 (Γ : Fun)  : CFun := bindC Γ
def R75_4 (C : CFun) (Λ2 J : Lam) (a0 : (List (List D))) (a1 : (List (List D))) (a2 : Int) : Res := lab SE C Λ2 J 75 0 [1, 1, 0, 1, 0] (stoOf [(0, .d (.sl api_Prop.ks a0)), (1, .d (.sl api_Prop.ks a1)), (5, .d (.int .i64 a2))] [] [] [] [])
theorem T75 (Γ : Fun)  (Λ2 J : Lam) (p0 : (List api_Prop)) (p1 : (List api_Prop)) : bodyC SE (C75 Γ) Λ2 J 75 [.d (.sl api_Prop.ks (List.map api_Prop.enc p0)), .d (.sl api_Prop.ks (List.map api_Prop.enc p1))] [] [] =
 cond ((List.length (List.map api_Prop.enc p0) : Int) != (List.length (List.map api_Prop.enc p1) : Int)) (
 (some (.ret [.d (.bool false)] [] []))) (
 R75_4 (C75 Γ) Λ2 J (List.map api_Prop.enc p0) (List.map api_Prop.enc p1) 0) := by kernel_rfl
theorem T75_4 (Γ : Fun)  (Λ2 J : Lam) (x0 : (List api_Prop)) (x1 : (List api_Prop)) (x5 : Int) : labU SE (C75 Γ) Λ2 J 75 0 [1, 1, 0, 1, 0] (stoOf [(0, .d (.sl api_Prop.ks (List.map api_Prop.enc x0))), (1, .d (.sl api_Prop.ks (List.map api_Prop.enc x1))), (5, .d (.int .i64 x5))] [] [] [] []) =
 cond (decide (x5 < (List.length (List.map api_Prop.enc x0) : Int))) (
 cond (decide (0 ≤ x5) && decide (x5 < (List.length (List.map api_Prop.enc x0) : Int))) (
  cond (decide (0 ≤ x5) && decide (x5 < (List.length (List.map api_Prop.enc x1) : Int))) (
  cond (!(((dStr (cellAt (elemAt (List.map api_Prop.enc x0) (Int.toNat x5)) 0)) == (dStr (cellAt (elemAt (List.map api_Prop.enc x1) (Int.toNat x5)) 0))) && (((dStr (cellAt (elemAt (List.map api_Prop.enc x0) (Int.toNat x5)) 1)) == (dStr (cellAt (elemAt (List.map api_Prop.enc x1) (Int.toNat x5)) 1))) && true))) (
   (some (.ret [.d (.bool false)] [] []))) (
  R75_4 (C75 Γ) Λ2 J (List.map api_Prop.enc x0) (List.map api_Prop.enc x1) (IntKind.wrap .i64 (x5 + 1)))) none) none) (
 (some (.ret [.d (.bool true)] [] []))) := by kernel_rfl
abbrev X75 : CFun := C75 (callG SE good)
theorem Cr75 : C75 (callG SE good) = bindC (callG SE good) := by unfold C75; rfl
noncomputable abbrev Q75_4 (a0 : (List (List D))) (a1 : (List (List D))) (a2 : Int) : Res := R75_4 X75 (lam2 SE (callG SE good) (SE.hl 75) (SE.hr 75)) (J0 SE X75) a0 a1 a2
theorem brokerref05_SameProps_l4_ok : ∀ (fu : Nat) (x0 : (List api_Prop)) (x1 : (List api_Prop)) (x5 : Int), Le (Option.map brokerref05_SameProps_out (brokerref05_SameProps_l4 fu x0 x1 x5)) (Q75_4 (List.map api_Prop.enc x0) (List.map api_Prop.enc x1) x5) := by
 intro fu
 induction fu with
 | zero => intros; exact le_none
 | succ fu ih =>
  intro x0 x1 x5
  refine Le.trans ?_ (le_of_eq ((lab_realC Cr75).trans (T75_4 _ _ _  x0 x1 x5)).symm)
  unfold brokerref05_SameProps_l4
  refine le_cond (by simp only [EN]) (fun _ => ?_) (fun _ => ?_)
  ·refine le_cond (by simp only [EN]) (fun _ => ?_) (fun _ => le_none)
   refine le_cond (by simp only [EN]) (fun _ => ?_) (fun _ => le_none)
   refine le_cond (by simp only [EN]) (fun _ => ?_) (fun _ => ?_)
   ·exact le_ret (by first | rfl | simp only [EN, brokerref05_SameProps_out] <;> rfl)
   ·exact ih x0 x1 (IntKind.wrap .i64 (x5 + 1))
  ·exact le_ret (by first | rfl | simp only [EN, brokerref05_SameProps_out] <;> rfl)
theorem brokerref05_SameProps_ok (p0 : (List api_Prop)) (p1 : (List api_Prop)) : Le (Option.map brokerref05_SameProps_out (brokerref05_SameProps p0 p1)) (callW SE 75 [.d (.sl api_Prop.ks (List.map api_Prop.enc p0)), .d (.sl api_Prop.ks (List.map api_Prop.enc p1))] [] []) := by
 refine le_bodyC Cr75 rfl ?_
 refine Le.trans ?_ (le_of_eq (T75 _ _ _  p0 p1).symm)
 unfold brokerref05_SameProps
 refine le_cond (by simp only [EN]) (fun _ => ?_) (fun _ => ?_)
 ·exact le_ret (by first | rfl | simp only [EN, brokerref05_SameProps_out] <;> rfl)
 ·exact brokerref05_SameProps_l4_ok fuel p0 p1 0
def C50 (Γ : Fun) (γ75 : Gm (Bool)) : CFun := updC (bindC Γ) 75 brokerref05_SameProps_out γ75
theorem T50 (Γ : Fun) (γ75 : Gm (Bool)) (Λ2 J : Lam) (p0 : api_Message) (p1 : api_Message) : bodyC SE (C50 Γ γ75) Λ2 J 50 [api_Message.av p0, api_Message.av p1] [] [] =
 cond (p0.Topic == p1.Topic) (
 cond (p0.Payload == p1.Payload) (
  cond (p0.Level == p1.Level) (
  cond (p0.Retain == p1.Retain) (
   cond (p0.Priority == p1.Priority) (
   cond (p0.Expires == p1.Expires) (
    cond (p0.From == p1.From) (
    cond (p0.Seq == p1.Seq) (
     γ75 [.d (.sl api_Prop.ks (List.map api_Prop.enc p0.Props)), .d (.sl api_Prop.ks (List.map api_Prop.enc p1.Props))] [] [] fun r0 =>
     (some (.ret [.d (.bool r0)] [] []))) (
    (some (.ret [.d (.bool false)] [] [])))) (
    (some (.ret [.d (.bool false)] [] [])))) (
   (some (.ret [.d (.bool false)] [] [])))) (
   (some (.ret [.d (.bool false)] [] [])))) (
  (some (.ret [.d (.bool false)] [] [])))) (
  (some (.ret [.d (.bool false)] [] [])))) (
 (some (.ret [.d (.bool false)] [] [])))) (
 (some (.ret [.d (.bool false)] [] []))) := by kernel_rfl
abbrev X50 : CFun := C50 (callG SE good) (callT SE good 75 brokerref05_SameProps_out)
theorem Cr50 : C50 (callG SE good) (callT SE good 75 brokerref05_SameProps_out) = bindC (callG SE good) := by unfold C50; rw [updC_real (fun _ h => h)]
theorem brokerref05_Same_ok (p0 : api_Message) (p1 : api_Message) : Le (Option.map brokerref05_Same_out (brokerref05_Same p0 p1)) (callW SE 50 [api_Message.av p0, api_Message.av p1] [] []) := by
 refine le_bodyC Cr50 rfl ?_
 refine Le.trans ?_ (le_of_eq (T50 _ _ _ _  p0 p1).symm)
 unfold brokerref05_Same
 refine lC ?_ ?_
 ·refine lC ?_ ?_
  ·refine lC ?_ ?_
   ·refine lC ?_ ?_
    ·refine lC ?_ ?_
     ·refine lC ?_ ?_
      ·refine lC ?_ ?_
       ·refine lC ?_ ?_
        ·refine le_call (good := good) eX brokerref05_SameProps_inj (brokerref05_SameProps_ok p0.Props p1.Props) (fun r0 _ => ?_)
         exact le_ret (by first | rfl | simp only [EN, brokerref05_Same_out] <;> rfl)
        ·exact le_ret (by first | rfl | simp only [EN, brokerref05_Same_out] <;> rfl)
       ·exact le_ret (by first | rfl | simp only [EN, brokerref05_Same_out] <;> rfl)
      ·exact le_ret (by first | rfl | simp only [EN, brokerref05_Same_out] <;> rfl)
     ·exact le_ret (by first | rfl | simp only [EN, brokerref05_Same_out] <;> rfl)
    ·exact le_ret (by first | rfl | simp only [EN, brokerref05_Same_out] <;> rfl)
   ·exact le_ret (by first | rfl | simp only [EN, brokerref05_Same_out] <;> rfl)
  ·exact le_ret (by first | rfl | simp only [EN, brokerref05_Same_out] <;> rfl)
 ·exact le_ret (by first | rfl | simp only [EN, brokerref05_Same_out] <;> rfl)
def C51 (Γ : Fun) (γ50 : Gm (Bool)) : CFun := updC (bindC Γ) 50 brokerref05_Same_out γ50
theorem T51 (Γ : Fun) (γ50 : Gm (Bool)) (Λ2 J : Lam) (p0 : api_Will) (p1 : api_Will) : bodyC SE (C51 Γ γ50) Λ2 J 51 [api_Will.av p0, api_Will.av p1] [] [] =
 cond (p0.Set == p1.Set) (
 cond (p0.Delay == p1.Delay) (
  γ50 [api_Message.av p0.Message, api_Message.av p1.Message] [] [] fun r0 =>
  (some (.ret [.d (.bool r0)] [] []))) (
 (some (.ret [.d (.bool false)] [] [])))) (
 (some (.ret [.d (.bool false)] [] []))) := by kernel_rfl
abbrev X51 : CFun := C51 (callG SE good) (callT SE good 50 brokerref05_Same_out)
theorem Cr51 : C51 (callG SE good) (callT SE good 50 brokerref05_Same_out) = bindC (callG SE good) := by unfold C51; rw [updC_real (fun _ h => h)]
theorem brokerref06_SameWill_ok (p0 : api_Will) (p1 : api_Will) : Le (Option.map brokerref06_SameWill_out (brokerref06_SameWill p0 p1)) (callW SE 51 [api_Will.av p0, api_Will.av p1] [] []) := by
 refine le_bodyC Cr51 rfl ?_
 refine Le.trans ?_ (le_of_eq (T51 _ _ _ _  p0 p1).symm)
 unfold brokerref06_SameWill
 refine lC ?_ ?_
 ·refine lC ?_ ?_
  ·refine le_call (good := good) eX brokerref05_Same_inj (brokerref05_Same_ok p0.Message p1.Message) (fun r0 _ => ?_)
   exact le_ret (by first | rfl | simp only [EN, brokerref06_SameWill_out] <;> rfl)
  ·exact le_ret (by first | rfl | simp only [EN, brokerref06_SameWill_out] <;> rfl)
 ·exact le_ret (by first | rfl | simp only [EN, brokerref06_SameWill_out] <;> rfl)
def C52 (Γ : Fun)  : CFun := bindC Γ
def R52_4 (C : CFun) (Λ2 J : Lam) (a0 : (List (List D))) (a1 : (List (List D))) (a2 : Int) : Res := lab SE C Λ2 J 52 0 [1, 1, 0, 1, 0] (stoOf [(0, .d (.sl api_Sub.ks a0)), (1, .d (.sl api_Sub.ks a1)), (5, .d (.int .i64 a2))] [] [] [] [])
theorem T52 (Γ : Fun)  (Λ2 J : Lam) (p0 : (List api_Sub)) (p1 : (List api_Sub)) : bodyC SE (C52 Γ) Λ2 J 52 [.d (.sl api_Sub.ks (List.map api_Sub.enc p0)), .d (.sl api_Sub.ks (List.map api_Sub.enc p1))] [] [] =
 cond ((List.length (List.map api_Sub.enc p0) : Int) != (List.length (List.map api_Sub.enc p1) : Int)) (
 (some (.ret [.d (.bool false)] [] []))) (
 R52_4 (C52 Γ) Λ2 J (List.map api_Sub.enc p0) (List.map api_Sub.enc p1) 0) := by kernel_rfl
theorem T52_4 (Γ : Fun)  (Λ2 J : Lam) (x0 : (List api_Sub)) (x1 : (List api_Sub)) (x5 : Int) : labU SE (C52 Γ) Λ2 J 52 0 [1, 1, 0, 1, 0] (stoOf [(0, .d (.sl api_Sub.ks (List.map api_Sub.enc x0))), (1, .d (.sl api_Sub.ks (List.map api_Sub.enc x1))), (5, .d (.int .i64 x5))] [] [] [] []) =
 cond (decide (x5 < (List.length (List.map api_Sub.enc x0) : Int))) (
 cond (decide (0 ≤ x5) && decide (x5 < (List.length (List.map api_Sub.enc x0) : Int))) (
  cond (decide (0 ≤ x5) && decide (x5 < (List.length (List.map api_Sub.enc x1) : Int))) (
  cond (!(((dStr (cellAt (elemAt (List.map api_Sub.enc x0) (Int.toNat x5)) 0)) == (dStr (cellAt (elemAt (List.map api_Sub.enc x1) (Int.toNat x5)) 0))) && (((dInt (cellAt (elemAt (List.map api_Sub.enc x0) (Int.toNat x5)) 1)) == (dInt (cellAt (elemAt (List.map api_Sub.enc x1) (Int.toNat x5)) 1))) && (((dBool (cellAt (elemAt (List.map api_Sub.enc x0) (Int.toNat x5)) 2)) == (dBool (cellAt (elemAt (List.map api_Sub.enc x1) (Int.toNat x5)) 2))) && true)))) (
   (some (.ret [.d (.bool false)] [] []))) (
  R52_4 (C52 Γ) Λ2 J (List.map api_Sub.enc x0) (List.map api_Sub.enc x1) (IntKind.wrap .i64 (x5 + 1)))) none) none) (
 (some (.ret [.d (.bool true)] [] []))) := by kernel_rfl
abbrev X52 : CFun := C52 (callG SE good)
theorem Cr52 : C52 (callG SE good) = bindC (callG SE good) := by unfold C52; rfl
noncomputable abbrev Q52_4 (a0 : (List (List D))) (a1 : (List (List D))) (a2 : Int) : Res := R52_4 X52 (lam2 SE (callG SE good) (SE.hl 52) (SE.hr 52)) (J0 SE X52) a0 a1 a2
theorem brokerref06_SameSubs_l4_ok : ∀ (fu : Nat) (x0 : (List api_Sub)) (x1 : (List api_Sub)) (x5 : Int), Le (Option.map brokerref06_SameSubs_out (brokerref06_SameSubs_l4 fu x0 x1 x5)) (Q52_4 (List.map api_Sub.enc x0) (List.map api_Sub.enc x1) x5) := by
 intro fu
 induction fu with
 | zero => intros; exact le_none
 | succ fu ih =>
  intro x0 x1 x5
  refine Le.trans ?_ (le_of_eq ((lab_realC Cr52).trans (T52_4 _ _ _  x0 x1 x5)).symm)
  unfold brokerref06_SameSubs_l4
  refine le_cond (by simp only [EN]) (fun _ => ?_) (fun _ => ?_)
  ·refine le_cond (by simp only [EN]) (fun _ => ?_) (fun _ => le_none)
   refine le_cond (by simp only [EN]) (fun _ => ?_) (fun _ => le_none)
   refine le_cond (by simp only [EN]) (fun _ => ?_) (fun _ => ?_)
   ·exact le_ret (by first | rfl | simp only [EN, brokerref06_SameSubs_out] <;> rfl)
   ·exact ih x0 x1 (IntKind.wrap .i64 (x5 + 1))
  ·exact le_ret (by first | rfl | simp only [EN, brokerref06_SameSubs_out] <;> rfl)
theorem brokerref06_SameSubs_ok (p0 : (List api_Sub)) (p1 : (List api_Sub)) : Le (Option.map brokerref06_SameSubs_out (brokerref06_SameSubs p0 p1)) (callW SE 52 [.d (.sl api_Sub.ks (List.map api_Sub.enc p0)), .d (.sl api_Sub.ks (List.map api_Sub.enc p1))] [] []) := by
 refine le_bodyC Cr52 rfl ?_
 refine Le.trans ?_ (le_of_eq (T52 _ _ _  p0 p1).symm)
 unfold brokerref06_SameSubs
 refine le_cond (by simp only [EN]) (fun _ => ?_) (fun _ => ?_)
 ·exact le_ret (by first | rfl | simp only [EN, brokerref06_SameSubs_out] <;> rfl)
 ·exact brokerref06_SameSubs_l4_ok fuel p0 p1 0
def C53 (Γ : Fun)  : CFun := bindC Γ
def R53_4 (C : CFun) (Λ2 J : Lam) (a0 : (List (List D))) (a1 : (List (List D))) (a2 : Int) : Res := lab SE C Λ2 J 53 0 [1, 1, 0, 1, 0] (stoOf [(0, .d (.sl [.str] a0)), (1, .d (.sl [.str] a1)), (5, .d (.int .i64 a2))] [] [] [] [])
theorem T53 (Γ : Fun)  (Λ2 J : Lam) (p0 : (List Str)) (p1 : (List Str)) : bodyC SE (C53 Γ) Λ2 J 53 [.d (.sl [.str] (List.map encS p0)), .d (.sl [.str] (List.map encS p1))] [] [] =
 cond ((List.length (List.map encS p0) : Int) != (List.length (List.map encS p1) : Int)) (
 (some (.ret [.d (.bool false)] [] []))) (
 R53_4 (C53 Γ) Λ2 J (List.map encS p0) (List.map encS p1) 0) := by kernel_rfl
theorem T53_4 (Γ : Fun)  (Λ2 J : Lam) (x0 : (List Str)) (x1 : (List Str)) (x5 : Int) : labU SE (C53 Γ) Λ2 J 53 0 [1, 1, 0, 1, 0] (stoOf [(0, .d (.sl [.str] (List.map encS x0))), (1, .d (.sl [.str] (List.map encS x1))), (5, .d (.int .i64 x5))] [] [] [] []) =
 cond (decide (x5 < (List.length (List.map encS x0) : Int))) (
 cond (decide (0 ≤ x5) && decide (x5 < (List.length (List.map encS x0) : Int))) (
  cond (decide (0 ≤ x5) && decide (x5 < (List.length (List.map encS x1) : Int))) (
  cond (!((dStr (cellAt (elemAt (List.map encS x0) (Int.toNat x5)) 0)) == (dStr (cellAt (elemAt (List.map encS x1) (Int.toNat x5)) 0)))) (
   (some (.ret [.d (.bool false)] [] []))) (
  R53_4 (C53 Γ) Λ2 J (List.map encS x0) (List.map encS x1) (IntKind.wrap .i64 (x5 + 1)))) none) none) (
 (some (.ret [.d (.bool true)] [] []))) := by kernel_rfl
abbrev X53 : CFun := C53 (callG SE good)
theorem Cr53 : C53 (callG SE good) = bindC (callG SE good) := by unfold C53; rfl
noncomputable abbrev Q53_4 (a0 : (List (List D))) (a1 : (List (List D))) (a2 : Int) : Res := R53_4 X53 (lam2 SE (callG SE good) (SE.hl 53) (SE.hr 53)) (J0 SE X53) a0 a1 a2
theorem brokerref01_Same_l4_ok : ∀ (fu : Nat) (x0 : (List Str)) (x1 : (List Str)) (x5 : Int), Le (Option.map brokerref01_Same_out (brokerref01_Same_l4 fu x0 x1 x5)) (Q53_4 (List.map encS x0) (List.map encS x1) x5) := by
 intro fu
 induction fu with
 | zero => intros; exact le_none
 | succ fu ih =>
  intro x0 x1 x5
  refine Le.trans ?_ (le_of_eq ((lab_realC Cr53).trans (T53_4 _ _ _  x0 x1 x5)).symm)
  unfold brokerref01_Same_l4
  refine le_cond (by simp only [EN]) (fun _ => ?_) (fun _ => ?_)
  ·refine le_cond (by simp only [EN]) (fun _ => ?_) (fun _ => le_none)
   refine le_cond (by simp only [EN]) (fun _ => ?_) (fun _ => le_none)
   refine le_cond (by simp only [EN]) (fun _ => ?_) (fun _ => ?_)
   ·exact le_ret (by first | rfl | simp only [EN, brokerref01_Same_out] <;> rfl)
   ·exact ih x0 x1 (IntKind.wrap .i64 (x5 + 1))
  ·exact le_ret (by first | rfl | simp only [EN, brokerref01_Same_out] <;> rfl)
theorem brokerref01_Same_ok (p0 : (List Str)) (p1 : (List Str)) : Le (Option.map brokerref01_Same_out (brokerref01_Same p0 p1)) (callW SE 53 [.d (.sl [.str] (List.map encS p0)), .d (.sl [.str] (List.map encS p1))] [] []) := by
 refine le_bodyC Cr53 rfl ?_
 refine Le.trans ?_ (le_of_eq (T53 _ _ _  p0 p1).symm)
 unfold brokerref01_Same
 refine le_cond (by simp only [EN]) (fun _ => ?_) (fun _ => ?_)
 ·exact le_ret (by first | rfl | simp only [EN, brokerref01_Same_out] <;> rfl)
 ·exact brokerref01_Same_l4_ok fuel p0 p1 0
def C54 (Γ : Fun)  : CFun := bindC Γ
def R54_4 (C : CFun) (Λ2 J : Lam) (a0 : (List (List D))) (a1 : (List (List D))) (a2 : Int) : Res := lab SE C Λ2 J 54 0 [1, 1, 0, 1, 0] (stoOf [(0, .d (.sl [.int .i64] a0)), (1, .d (.sl [.int .i64] a1)), (5, .d (.int .i64 a2))] [] [] [] [])
theorem T54 (Γ : Fun)  (Λ2 J : Lam) (p0 : (List Int)) (p1 : (List Int)) : bodyC SE (C54 Γ) Λ2 J 54 [.d (.sl [.int .i64] (List.map (encI .i64) p0)), .d (.sl [.int .i64] (List.map (encI .i64) p1))] [] [] =
 cond ((List.length (List.map (encI .i64) p0) : Int) != (List.length (List.map (encI .i64) p1) : Int)) (
 (some (.ret [.d (.bool false)] [] []))) (
 R54_4 (C54 Γ) Λ2 J (List.map (encI .i64) p0) (List.map (encI .i64) p1) 0) := by kernel_rfl
theorem T54_4 (Γ : Fun)  (Λ2 J : Lam) (x0 : (List Int)) (x1 : (List Int)) (x5 : Int) : labU SE (C54 Γ) Λ2 J 54 0 [1, 1, 0, 1, 0] (stoOf [(0, .d (.sl [.int .i64] (List.map (encI .i64) x0))), (1, .d (.sl [.int .i64] (List.map (encI .i64) x1))), (5, .d (.int .i64 x5))] [] [] [] []) =
 cond (decide (x5 < (List.length (List.map (encI .i64) x0) : Int))) (
 cond (decide (0 ≤ x5) && decide (x5 < (List.length (List.map (encI .i64) x0) : Int))) (
  cond (decide (0 ≤ x5) && decide (x5 < (List.length (List.map (encI .i64) x1) : Int))) (
  cond ((dInt (cellAt (elemAt (List.map (encI .i64) x0) (Int.toNat x5)) 0)) != (dInt (cellAt (elemAt (List.map (encI .i64) x1) (Int.toNat x5)) 0))) (
   (some (.ret [.d (.bool false)] [] []))) (
  R54_4 (C54 Γ) Λ2 J (List.map (encI .i64) x0) (List.map (encI .i64) x1) (IntKind.wrap .i64 (x5 + 1)))) none) none) (
 (some (.ret [.d (.bool true)] [] []))) := by kernel_rfl
abbrev X54 : CFun := C54 (callG SE good)
theorem Cr54 : C54 (callG SE good) = bindC (callG SE good) := by unfold C54; rfl
noncomputable abbrev Q54_4 (a0 : (List (List D))) (a1 : (List (List D))) (a2 : Int) : Res := R54_4 X54 (lam2 SE (callG SE good) (SE.hl 54) (SE.hr 54)) (J0 SE X54) a0 a1 a2
theorem brokerref06_SameNumbers_l4_ok : ∀ (fu : Nat) (x0 : (List Int)) (x1 : (List Int)) (x5 : Int), Le (Option.map brokerref06_SameNumbers_out (brokerref06_SameNumbers_l4 fu x0 x1 x5)) (Q54_4 (List.map (encI .i64) x0) (List.map (encI .i64) x1) x5) := by
 intro fu
 induction fu with
 | zero => intros; exact le_none
 | succ fu ih =>
  intro x0 x1 x5
  refine Le.trans ?_ (le_of_eq ((lab_realC Cr54).trans (T54_4 _ _ _  x0 x1 x5)).symm)
  unfold brokerref06_SameNumbers_l4
  refine le_cond (by simp only [EN]) (fun _ => ?_) (fun _ => ?_)
  ·refine le_cond (by simp only [EN]) (fun _ => ?_) (fun _ => le_none)
   refine le_cond (by simp only [EN]) (fun _ => ?_) (fun _ => le_none)
   refine le_cond (by simp only [EN]) (fun _ => ?_) (fun _ => ?_)
   ·exact le_ret (by first | rfl | simp only [EN, brokerref06_SameNumbers_out] <;> rfl)
   ·exact ih x0 x1 (IntKind.wrap .i64 (x5 + 1))
  ·exact le_ret (by first | rfl | simp only [EN, brokerref06_SameNumbers_out] <;> rfl)
theorem brokerref06_SameNumbers_ok (p0 : (List Int)) (p1 : (List Int)) : Le (Option.map brokerref06_SameNumbers_out (brokerref06_SameNumbers p0 p1)) (callW SE 54 [.d (.sl [.int .i64] (List.map (encI .i64) p0)), .d (.sl [.int .i64] (List.map (encI .i64) p1))] [] []) := by
 refine le_bodyC Cr54 rfl ?_
 refine Le.trans ?_ (le_of_eq (T54 _ _ _  p0 p1).symm)
 unfold brokerref06_SameNumbers
 refine le_cond (by simp only [EN]) (fun _ => ?_) (fun _ => ?_)
 ·exact le_ret (by first | rfl | simp only [EN, brokerref06_SameNumbers_out] <;> rfl)
 ·exact brokerref06_SameNumbers_l4_ok fuel p0 p1 0
end Te
end PX
