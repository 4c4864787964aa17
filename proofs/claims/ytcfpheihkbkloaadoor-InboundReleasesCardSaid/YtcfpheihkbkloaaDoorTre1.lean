import Derived.Test.YtcfpheihkbkloaaDoorTre0
set_option linter.unusedVariables false
set_option linter.unusedSimpArgs false
set_option linter.unusedVariables false
set_option linter.unusedSimpArgs false
set_option maxRecDepth 100000
noncomputable section
namespace PX
open Go
open Md
namespace Te
def C43 (Γ : Fun) (γ53 : Gm (Int)) (γ54 : Gm (Bool × Bool)) : CFun := updC (updC (bindC Γ) 53 packet_counted_out γ53) 54 packet_wanted_out γ54
def R43_5 (C : CFun) (Λ2 J : Lam) (a0 : (List (List D))) (a1 : Int) (a2 : Int) : Res := lab SE C Λ2 J 43 0 [1, 1, 0, 1, 0] (stoOf [(18, .d (.sl [.str] a0)), (19, .d (.int .i64 a1)), (20, .d (.int .i64 a2))] [] [] [] [])
theorem T43 (Γ : Fun) (γ53 : Gm (Int)) (γ54 : Gm (Bool × Bool)) (Λ2 J : Lam) (p0 : api_Packet) : bodyC SE (C43 Γ γ53 γ54) Λ2 J 43 [api_Packet.av p0] [] [] =
  γ53 [.d (.int .i64 p0.ID), .d (.int .i64 (List.length (List.map encS p0.Filters) : Int))] [] [] fun r0 =>
  cond (r0 != 0) (
   (some (.ret [.d (.int .i64 r0)] [] []))) (
  R43_5 (C43 Γ γ53 γ54) Λ2 J (List.map encS p0.Filters) (List.length (List.map encS p0.Filters) : Int) 0) := by kernel_rfl
theorem T43_5 (Γ : Fun) (γ53 : Gm (Int)) (γ54 : Gm (Bool × Bool)) (Λ2 J : Lam) (x18 : (List Str)) (x19 : Int) (x20 : Int) : labU SE (C43 Γ γ53 γ54) Λ2 J 43 0 [1, 1, 0, 1, 0] (stoOf [(18, .d (.sl [.str] (List.map encS x18))), (19, .d (.int .i64 x19)), (20, .d (.int .i64 x20))] [] [] [] []) =
  cond (decide (x20 < x19)) (
   cond (decide (0 ≤ x20) && decide (x20 < (List.length (List.map encS x18) : Int))) (
    γ54 [.d (.str (dStr (cellAt (elemAt (List.map encS x18) (Int.toNat x20)) 0)))] [] [] fun r1 =>
    cond (!r1.1) (
     (some (.ret [.d (.int .i64 13)] [] []))) (
    R43_5 (C43 Γ γ53 γ54) Λ2 J (List.map encS x18) x19 (IntKind.wrap .i64 (x20 + 1)))) none) (
  (some (.ret [.d (.int .i64 0)] [] []))) := by kernel_rfl
abbrev X43 : CFun := C43 (callG SE good) (callT SE good 53 packet_counted_out) (callT SE good 54 packet_wanted_out)
theorem Cr43 : C43 (callG SE good) (callT SE good 53 packet_counted_out) (callT SE good 54 packet_wanted_out) = bindC (callG SE good) := by unfold C43; rw [updC_real (fun _ h => h), updC_real (fun _ h => h)]
noncomputable abbrev Q43_5 (a0 : (List (List D))) (a1 : Int) (a2 : Int) : Res := R43_5 X43 (lam2 SE (callG SE good) (SE.hl 43) (SE.hr 43)) (J0 SE X43) a0 a1 a2
theorem packet_unsubscribe_l5_ok : ∀ (fu : Nat) (x18 : (List Str)) (x19 : Int) (x20 : Int), Le (Option.map packet_unsubscribe_out (packet_unsubscribe_l5 fu x18 x19 x20)) (Q43_5 (List.map encS x18) x19 x20) := by
  intro fu
  induction fu with
  | zero => intros; exact le_none
  | succ fu ih =>
    intro x18 x19 x20
    refine Le.trans ?_ (le_of_eq ((lab_realC Cr43).trans (T43_5 _ _ _ _ _  x18 x19 x20)).symm)
    unfold packet_unsubscribe_l5
    refine le_cond rfl (fun _ => ?_) (fun _ => ?_)
    · skip
      refine le_cond (by simp only [EN]) (fun _ => ?_) (fun _ => le_none)
      refine le_call (good := good) (fun y => ⟨y, rfl⟩) packet_wanted_inj (by first | (simp only [EN]; exact packet_wanted_ok (List.getD x18 (Int.toNat x20) default)) | exact packet_wanted_ok (List.getD x18 (Int.toNat x20) default)) (fun r1 _ => ?_)
      refine le_cond rfl (fun _ => ?_) (fun _ => ?_)
      · skip
        exact le_ret (by first | rfl | (simp only [EN, packet_unsubscribe_out]; done) | (simp only [EN, packet_unsubscribe_out]; rfl))
      · skip
        exact ih x18 x19 (IntKind.wrap .i64 (x20 + 1))
    · skip
      exact le_ret (by first | rfl | (simp only [EN, packet_unsubscribe_out]; done) | (simp only [EN, packet_unsubscribe_out]; rfl))
theorem packet_unsubscribe_ok (p0 : api_Packet) : Le (Option.map packet_unsubscribe_out (packet_unsubscribe p0)) (callW SE 43 [api_Packet.av p0] [] []) := by
  refine le_bodyC Cr43 rfl ?_
  refine Le.trans ?_ (le_of_eq (T43 _ _ _ _ _  p0).symm)
  unfold packet_unsubscribe
  refine le_call (good := good) (fun y => ⟨y, rfl⟩) packet_counted_inj (by first | (simp only [EN]; exact packet_counted_ok p0.ID (List.length p0.Filters : Int)) | exact packet_counted_ok p0.ID (List.length p0.Filters : Int)) (fun r0 _ => ?_)
  refine le_cond rfl (fun _ => ?_) (fun _ => ?_)
  · skip
    exact le_ret (by first | rfl | (simp only [EN, packet_unsubscribe_out]; done) | (simp only [EN, packet_unsubscribe_out]; rfl))
  · skip
    first | (simp only [EN]; exact packet_unsubscribe_l5_ok fuel p0.Filters (List.length p0.Filters : Int) 0) | exact packet_unsubscribe_l5_ok fuel p0.Filters (List.length p0.Filters : Int) 0
def C26 (Γ : Fun) (γ34 : Gm (Bool)) (γ36 : Gm (api_Packet)) (γ35 : Gm (Bool)) (γ37 : Gm (Int)) (γ38 : Gm (Bool)) (γ39 : Gm (Int)) (γ40 : Gm (Int)) (γ41 : Gm (Int)) (γ42 : Gm (Int)) (γ43 : Gm (Int)) : CFun := updC (updC (updC (updC (updC (updC (updC (updC (updC (updC (bindC Γ) 34 packet_is_out γ34) 36 packet_used_out γ36) 35 packet_Same_out γ35) 37 packet_connect_out γ37) 38 packet_code_out γ38) 39 packet_publish_out γ39) 40 packet_ident_out γ40) 41 packet_subscribe_out γ41) 42 packet_codes_out γ42) 43 packet_unsubscribe_out γ43
theorem T26 (Γ : Fun) (γ34 : Gm (Bool)) (γ36 : Gm (api_Packet)) (γ35 : Gm (Bool)) (γ37 : Gm (Int)) (γ38 : Gm (Bool)) (γ39 : Gm (Int)) (γ40 : Gm (Int)) (γ41 : Gm (Int)) (γ42 : Gm (Int)) (γ43 : Gm (Int)) (Λ2 J : Lam) (p0 : api_Packet) : bodyC SE (C26 Γ γ34 γ36 γ35 γ37 γ38 γ39 γ40 γ41 γ42 γ43) Λ2 J 26 [api_Packet.av p0] [] [] =
  γ34 [.d (.int .i64 p0.Kind), .d (.int .i64 1), .d (.int .i64 14)] [] [] fun r0 =>
  cond (!r0) (
   (some (.ret [.d (.int .i64 10)] [] []))) (
  γ36 [api_Packet.av p0] [] [] fun r1 =>
  γ35 [api_Packet.av p0, api_Packet.av r1] [] [] fun r2 =>
  cond (!r2) (
   (some (.ret [.d (.int .i64 28)] [] []))) (
  cond (p0.Kind == 1) (
   γ37 [api_Packet.av p0] [] [] fun r3 =>
   (some (.ret [.d (.int .i64 r3)] [] []))) (
  cond (p0.Kind == 2) (
   γ38 [.d (.int .i64 p0.Code)] [] [] fun r4 =>
   cond (!r4) (
    (some (.ret [.d (.int .i64 1)] [] []))) (
   cond p0.Present (
    cond (p0.Code != 0) (
     (some (.ret [.d (.int .i64 28)] [] []))) (
    (some (.ret [.d (.int .i64 0)] [] [])))) (
   (some (.ret [.d (.int .i64 0)] [] []))))) (
  cond (p0.Kind == 14) (
   γ38 [.d (.int .i64 p0.Code)] [] [] fun r5 =>
   cond (!r5) (
    (some (.ret [.d (.int .i64 1)] [] []))) (
   cond p0.Present (
    cond (p0.Code != 0) (
     (some (.ret [.d (.int .i64 28)] [] []))) (
    (some (.ret [.d (.int .i64 0)] [] [])))) (
   (some (.ret [.d (.int .i64 0)] [] []))))) (
  cond (p0.Kind == 3) (
   γ39 [api_Packet.av p0] [] [] fun r6 =>
   (some (.ret [.d (.int .i64 r6)] [] []))) (
  cond (p0.Kind == 4) (
   γ40 [.d (.int .i64 p0.ID)] [] [] fun r7 =>
   (some (.ret [.d (.int .i64 r7)] [] []))) (
  cond (p0.Kind == 5) (
   γ40 [.d (.int .i64 p0.ID)] [] [] fun r8 =>
   (some (.ret [.d (.int .i64 r8)] [] []))) (
  cond (p0.Kind == 6) (
   γ40 [.d (.int .i64 p0.ID)] [] [] fun r9 =>
   (some (.ret [.d (.int .i64 r9)] [] []))) (
  cond (p0.Kind == 7) (
   γ40 [.d (.int .i64 p0.ID)] [] [] fun r10 =>
   (some (.ret [.d (.int .i64 r10)] [] []))) (
  cond (p0.Kind == 8) (
   γ41 [api_Packet.av p0] [] [] fun r11 =>
   (some (.ret [.d (.int .i64 r11)] [] []))) (
  cond (p0.Kind == 9) (
   γ42 [api_Packet.av p0] [] [] fun r12 =>
   (some (.ret [.d (.int .i64 r12)] [] []))) (
  cond (p0.Kind == 11) (
   γ42 [api_Packet.av p0] [] [] fun r13 =>
   (some (.ret [.d (.int .i64 r13)] [] []))) (
  cond (p0.Kind == 10) (
   γ43 [api_Packet.av p0] [] [] fun r14 =>
   (some (.ret [.d (.int .i64 r14)] [] []))) (
  (some (.ret [.d (.int .i64 0)] [] [])))))))))))))))) := by kernel_rfl
abbrev X26 : CFun := C26 (callG SE good) (callT SE good 34 packet_is_out) (callT SE good 36 packet_used_out) (callT SE good 35 packet_Same_out) (callT SE good 37 packet_connect_out) (callT SE good 38 packet_code_out) (callT SE good 39 packet_publish_out) (callT SE good 40 packet_ident_out) (callT SE good 41 packet_subscribe_out) (callT SE good 42 packet_codes_out) (callT SE good 43 packet_unsubscribe_out)
theorem Cr26 : C26 (callG SE good) (callT SE good 34 packet_is_out) (callT SE good 36 packet_used_out) (callT SE good 35 packet_Same_out) (callT SE good 37 packet_connect_out) (callT SE good 38 packet_code_out) (callT SE good 39 packet_publish_out) (callT SE good 40 packet_ident_out) (callT SE good 41 packet_subscribe_out) (callT SE good 42 packet_codes_out) (callT SE good 43 packet_unsubscribe_out) = bindC (callG SE good) := by unfold C26; rw [updC_real (fun _ h => h), updC_real (fun _ h => h), updC_real (fun _ h => h), updC_real (fun _ h => h), updC_real (fun _ h => h), updC_real (fun _ h => h), updC_real (fun _ h => h), updC_real (fun _ h => h), updC_real (fun _ h => h), updC_real (fun _ h => h)]
theorem packet_Check_ok (p0 : api_Packet) : Le (Option.map packet_Check_out (packet_Check p0)) (callW SE 26 [api_Packet.av p0] [] []) := by
  refine le_bodyC Cr26 rfl ?_
  refine Le.trans ?_ (le_of_eq (T26 _ _ _ _ _ _ _ _ _ _ _ _ _  p0).symm)
  unfold packet_Check
  refine le_call (good := good) (fun y => ⟨y, rfl⟩) packet_is_inj (packet_is_ok p0.Kind 1 14) (fun r0 _ => ?_)
  refine le_cond rfl (fun _ => ?_) (fun _ => ?_)
  · skip
    exact le_ret (by first | rfl | (simp only [EN, packet_Check_out]; done) | (simp only [EN, packet_Check_out]; rfl))
  · skip
    refine le_call (good := good) (fun y => ⟨y, rfl⟩) packet_used_inj (packet_used_ok p0) (fun r1 _ => ?_)
    refine le_call (good := good) (fun y => ⟨y, rfl⟩) packet_Same_inj (packet_Same_ok p0 r1) (fun r2 _ => ?_)
    refine le_cond rfl (fun _ => ?_) (fun _ => ?_)
    · skip
      exact le_ret (by first | rfl | (simp only [EN, packet_Check_out]; done) | (simp only [EN, packet_Check_out]; rfl))
    · skip
      refine le_cond rfl (fun _ => ?_) (fun _ => ?_)
      · skip
        refine le_call (good := good) (fun y => ⟨y, rfl⟩) packet_connect_inj (packet_connect_ok p0) (fun r3 _ => ?_)
        exact le_ret (by first | rfl | (simp only [EN, packet_Check_out]; done) | (simp only [EN, packet_Check_out]; rfl))
      · skip
        refine le_cond rfl (fun _ => ?_) (fun _ => ?_)
        · skip
          refine le_call (good := good) (fun y => ⟨y, rfl⟩) packet_code_inj (packet_code_ok p0.Code) (fun r4 _ => ?_)
          refine le_cond rfl (fun _ => ?_) (fun _ => ?_)
          · skip
            exact le_ret (by first | rfl | (simp only [EN, packet_Check_out]; done) | (simp only [EN, packet_Check_out]; rfl))
          · skip
            refine le_cond rfl (fun _ => ?_) (fun _ => ?_)
            · skip
              refine le_cond rfl (fun _ => ?_) (fun _ => ?_)
              · skip
                exact le_ret (by first | rfl | (simp only [EN, packet_Check_out]; done) | (simp only [EN, packet_Check_out]; rfl))
              · skip
                exact le_ret (by first | rfl | (simp only [EN, packet_Check_out]; done) | (simp only [EN, packet_Check_out]; rfl))
            · skip
              exact le_ret (by first | rfl | (simp only [EN, packet_Check_out]; done) | (simp only [EN, packet_Check_out]; rfl))
        · skip
          refine le_cond rfl (fun _ => ?_) (fun _ => ?_)
          · skip
            refine le_call (good := good) (fun y => ⟨y, rfl⟩) packet_code_inj (packet_code_ok p0.Code) (fun r5 _ => ?_)
            refine le_cond rfl (fun _ => ?_) (fun _ => ?_)
            · skip
              exact le_ret (by first | rfl | (simp only [EN, packet_Check_out]; done) | (simp only [EN, packet_Check_out]; rfl))
            · skip
              refine le_cond rfl (fun _ => ?_) (fun _ => ?_)
              · skip
                refine le_cond rfl (fun _ => ?_) (fun _ => ?_)
                · skip
                  exact le_ret (by first | rfl | (simp only [EN, packet_Check_out]; done) | (simp only [EN, packet_Check_out]; rfl))
                · skip
                  exact le_ret (by first | rfl | (simp only [EN, packet_Check_out]; done) | (simp only [EN, packet_Check_out]; rfl))
              · skip
                exact le_ret (by first | rfl | (simp only [EN, packet_Check_out]; done) | (simp only [EN, packet_Check_out]; rfl))
          · skip
            refine le_cond rfl (fun _ => ?_) (fun _ => ?_)
            · skip
              refine le_call (good := good) (fun y => ⟨y, rfl⟩) packet_publish_inj (packet_publish_ok p0) (fun r6 _ => ?_)
              exact le_ret (by first | rfl | (simp only [EN, packet_Check_out]; done) | (simp only [EN, packet_Check_out]; rfl))
            · skip
              refine le_cond rfl (fun _ => ?_) (fun _ => ?_)
              · skip
                refine le_call (good := good) (fun y => ⟨y, rfl⟩) packet_ident_inj (packet_ident_ok p0.ID) (fun r7 _ => ?_)
                exact le_ret (by first | rfl | (simp only [EN, packet_Check_out]; done) | (simp only [EN, packet_Check_out]; rfl))
              · skip
                refine le_cond rfl (fun _ => ?_) (fun _ => ?_)
                · skip
                  refine le_call (good := good) (fun y => ⟨y, rfl⟩) packet_ident_inj (packet_ident_ok p0.ID) (fun r8 _ => ?_)
                  exact le_ret (by first | rfl | (simp only [EN, packet_Check_out]; done) | (simp only [EN, packet_Check_out]; rfl))
                · skip
                  refine le_cond rfl (fun _ => ?_) (fun _ => ?_)
                  · skip
                    refine le_call (good := good) (fun y => ⟨y, rfl⟩) packet_ident_inj (packet_ident_ok p0.ID) (fun r9 _ => ?_)
                    exact le_ret (by first | rfl | (simp only [EN, packet_Check_out]; done) | (simp only [EN, packet_Check_out]; rfl))
                  · skip
                    refine le_cond rfl (fun _ => ?_) (fun _ => ?_)
                    · skip
                      refine le_call (good := good) (fun y => ⟨y, rfl⟩) packet_ident_inj (packet_ident_ok p0.ID) (fun r10 _ => ?_)
                      exact le_ret (by first | rfl | (simp only [EN, packet_Check_out]; done) | (simp only [EN, packet_Check_out]; rfl))
                    · skip
                      refine le_cond rfl (fun _ => ?_) (fun _ => ?_)
                      · skip
                        refine le_call (good := good) (fun y => ⟨y, rfl⟩) packet_subscribe_inj (packet_subscribe_ok p0) (fun r11 _ => ?_)
                        exact le_ret (by first | rfl | (simp only [EN, packet_Check_out]; done) | (simp only [EN, packet_Check_out]; rfl))
                      · skip
                        refine le_cond rfl (fun _ => ?_) (fun _ => ?_)
                        · skip
                          refine le_call (good := good) (fun y => ⟨y, rfl⟩) packet_codes_inj (packet_codes_ok p0) (fun r12 _ => ?_)
                          exact le_ret (by first | rfl | (simp only [EN, packet_Check_out]; done) | (simp only [EN, packet_Check_out]; rfl))
                        · skip
                          refine le_cond rfl (fun _ => ?_) (fun _ => ?_)
                          · skip
                            refine le_call (good := good) (fun y => ⟨y, rfl⟩) packet_codes_inj (packet_codes_ok p0) (fun r13 _ => ?_)
                            exact le_ret (by first | rfl | (simp only [EN, packet_Check_out]; done) | (simp only [EN, packet_Check_out]; rfl))
                          · skip
                            refine le_cond rfl (fun _ => ?_) (fun _ => ?_)
                            · skip
                              refine le_call (good := good) (fun y => ⟨y, rfl⟩) packet_unsubscribe_inj (packet_unsubscribe_ok p0) (fun r14 _ => ?_)
                              exact le_ret (by first | rfl | (simp only [EN, packet_Check_out]; done) | (simp only [EN, packet_Check_out]; rfl))
                            · skip
                              exact le_ret (by first | rfl | (simp only [EN, packet_Check_out]; done) | (simp only [EN, packet_Check_out]; rfl))
def C45 (Γ : Fun)  : CFun := bindC Γ
theorem T45 (Γ : Fun)  (Λ2 J : Lam) (p0 : Int) : bodyC SE (C45 Γ) Λ2 J 45 [.d (.int .i64 p0)] [] [] =
  (some (.ret [.d (.bool (p0 != p0))] [] [])) := by kernel_rfl
abbrev X45 : CFun := C45 (callG SE good)
theorem Cr45 : C45 (callG SE good) = bindC (callG SE good) := by unfold C45; rfl
theorem cmp_isNaN_int__ok (p0 : Int) : Le (Option.map cmp_isNaN_int__out (cmp_isNaN_int_ p0)) (callW SE 45 [.d (.int .i64 p0)] [] []) := by
  refine le_bodyC Cr45 rfl ?_
  refine Le.trans ?_ (le_of_eq (T45 _ _ _  p0).symm)
  unfold cmp_isNaN_int_
  exact le_ret (by first | rfl | (simp only [EN, cmp_isNaN_int__out]; done) | (simp only [EN, cmp_isNaN_int__out]; rfl))
def C30 (Γ : Fun) (γ45 : Gm (Bool)) : CFun := updC (bindC Γ) 45 cmp_isNaN_int__out γ45
theorem T30 (Γ : Fun) (γ45 : Gm (Bool)) (Λ2 J : Lam) (p0 : Int) (p1 : Int) : bodyC SE (C30 Γ γ45) Λ2 J 30 [.d (.int .i64 p0), .d (.int .i64 p1)] [] [] =
  γ45 [.d (.int .i64 p0)] [] [] fun r0 =>
  cond r0 (
   γ45 [.d (.int .i64 p1)] [] [] fun r1 =>
   cond (!r1) (
    (some (.ret [.d (.bool true)] [] []))) (
   (some (.ret [.d (.bool (decide (p0 < p1)))] [] [])))) (
  (some (.ret [.d (.bool (decide (p0 < p1)))] [] []))) := by kernel_rfl
abbrev X30 : CFun := C30 (callG SE good) (callT SE good 45 cmp_isNaN_int__out)
theorem Cr30 : C30 (callG SE good) (callT SE good 45 cmp_isNaN_int__out) = bindC (callG SE good) := by unfold C30; rw [updC_real (fun _ h => h)]
theorem cmp_Less_int__ok (p0 : Int) (p1 : Int) : Le (Option.map cmp_Less_int__out (cmp_Less_int_ p0 p1)) (callW SE 30 [.d (.int .i64 p0), .d (.int .i64 p1)] [] []) := by
  refine le_bodyC Cr30 rfl ?_
  refine Le.trans ?_ (le_of_eq (T30 _ _ _ _  p0 p1).symm)
  unfold cmp_Less_int_
  refine le_call (good := good) (fun y => ⟨y, rfl⟩) cmp_isNaN_int__inj (cmp_isNaN_int__ok p0) (fun r0 _ => ?_)
  refine le_cond rfl (fun _ => ?_) (fun _ => ?_)
  · skip
    refine le_call (good := good) (fun y => ⟨y, rfl⟩) cmp_isNaN_int__inj (cmp_isNaN_int__ok p1) (fun r1 _ => ?_)
    refine le_cond rfl (fun _ => ?_) (fun _ => ?_)
    · skip
      exact le_ret (by first | rfl | (simp only [EN, cmp_Less_int__out]; done) | (simp only [EN, cmp_Less_int__out]; rfl))
    · skip
      exact le_ret (by first | rfl | (simp only [EN, cmp_Less_int__out]; done) | (simp only [EN, cmp_Less_int__out]; rfl))
  · skip
    exact le_ret (by first | rfl | (simp only [EN, cmp_Less_int__out]; done) | (simp only [EN, cmp_Less_int__out]; rfl))
def C31 (Γ : Fun)  : CFun := bindC Γ
theorem T31 (Γ : Fun)  (Λ2 J : Lam) (p0 : Int) : bodyC SE (C31 Γ) Λ2 J 31 [.d (.int .i64 p0)] [] [] =
  (some (.ret [.d (.bool (p0 != p0))] [] [])) := by kernel_rfl
abbrev X31 : CFun := C31 (callG SE good)
theorem Cr31 : C31 (callG SE good) = bindC (callG SE good) := by unfold C31; rfl
theorem slices_isNaN_int__ok (p0 : Int) : Le (Option.map slices_isNaN_int__out (slices_isNaN_int_ p0)) (callW SE 31 [.d (.int .i64 p0)] [] []) := by
  refine le_bodyC Cr31 rfl ?_
  refine Le.trans ?_ (le_of_eq (T31 _ _ _  p0).symm)
  unfold slices_isNaN_int_
  exact le_ret (by first | rfl | (simp only [EN, slices_isNaN_int__out]; done) | (simp only [EN, slices_isNaN_int__out]; rfl))
def C16 (Γ : Fun) (γ30 : Gm (Bool)) (γ31 : Gm (Bool)) : CFun := updC (updC (bindC Γ) 30 cmp_Less_int__out γ30) 31 slices_isNaN_int__out γ31
def R16_3 (C : CFun) (Λ2 J : Lam) (a0 : (List (List D))) (a1 : Int) (a2 : Int) (a3 : Int) (a4 : Int) : Res := lab SE C Λ2 J 16 0 [1, 1, 1, 0, 0] (stoOf [(0, .d (.sl [.int .i64] a0)), (1, .d (.int .i64 a1)), (6, .d (.int .i64 a2)), (7, .d (.int .i64 a3)), (8, .d (.int .i64 a4))] [] [] [] [])
theorem T16 (Γ : Fun) (γ30 : Gm (Bool)) (γ31 : Gm (Bool)) (Λ2 J : Lam) (p0 : (List Int)) (p1 : Int) : bodyC SE (C16 Γ γ30 γ31) Λ2 J 16 [.d (.sl [.int .i64] (List.map (encI .i64) p0)), .d (.int .i64 p1)] [] [] =
  R16_3 (C16 Γ γ30 γ31) Λ2 J (List.map (encI .i64) p0) p1 (List.length (List.map (encI .i64) p0) : Int) 0 (List.length (List.map (encI .i64) p0) : Int) := by kernel_rfl
theorem T16_3 (Γ : Fun) (γ30 : Gm (Bool)) (γ31 : Gm (Bool)) (Λ2 J : Lam) (x0 : (List Int)) (x1 : Int) (x6 : Int) (x7 : Int) (x8 : Int) : labU SE (C16 Γ γ30 γ31) Λ2 J 16 0 [1, 1, 1, 0, 0] (stoOf [(0, .d (.sl [.int .i64] (List.map (encI .i64) x0))), (1, .d (.int .i64 x1)), (6, .d (.int .i64 x6)), (7, .d (.int .i64 x7)), (8, .d (.int .i64 x8))] [] [] [] []) =
  cond (decide (x7 < x8)) (
   cond (decide (0 ≤ (IntKind.wrap .i64 (shr .u64 (IntKind.wrap .u64 (IntKind.wrap .i64 (x7 + x8))) 1))) && decide ((IntKind.wrap .i64 (shr .u64 (IntKind.wrap .u64 (IntKind.wrap .i64 (x7 + x8))) 1)) < (List.length (List.map (encI .i64) x0) : Int))) (
    γ30 [.d (.int .i64 (dInt (cellAt (elemAt (List.map (encI .i64) x0) (Int.toNat (IntKind.wrap .i64 (shr .u64 (IntKind.wrap .u64 (IntKind.wrap .i64 (x7 + x8))) 1)))) 0))), .d (.int .i64 x1)] [] [] fun r0 =>
    cond r0 (
     R16_3 (C16 Γ γ30 γ31) Λ2 J (List.map (encI .i64) x0) x1 x6 (IntKind.wrap .i64 ((IntKind.wrap .i64 (shr .u64 (IntKind.wrap .u64 (IntKind.wrap .i64 (x7 + x8))) 1)) + 1)) x8) (
    R16_3 (C16 Γ γ30 γ31) Λ2 J (List.map (encI .i64) x0) x1 x6 x7 (IntKind.wrap .i64 (shr .u64 (IntKind.wrap .u64 (IntKind.wrap .i64 (x7 + x8))) 1)))) none) (
  cond (decide (x7 < x6)) (
   cond (decide (0 ≤ x7) && decide (x7 < (List.length (List.map (encI .i64) x0) : Int))) (
    cond ((dInt (cellAt (elemAt (List.map (encI .i64) x0) (Int.toNat x7)) 0)) == x1) (
     (some (.ret [.d (.int .i64 x7), .d (.bool true)] [] []))) (
    cond (decide (0 ≤ x7) && decide (x7 < (List.length (List.map (encI .i64) x0) : Int))) (
     γ31 [.d (.int .i64 (dInt (cellAt (elemAt (List.map (encI .i64) x0) (Int.toNat x7)) 0)))] [] [] fun r1 =>
     cond r1 (
      γ31 [.d (.int .i64 x1)] [] [] fun r2 =>
      (some (.ret [.d (.int .i64 x7), .d (.bool r2)] [] []))) (
     (some (.ret [.d (.int .i64 x7), .d (.bool false)] [] [])))) none)) none) (
  (some (.ret [.d (.int .i64 x7), .d (.bool false)] [] [])))) := by kernel_rfl
abbrev X16 : CFun := C16 (callG SE good) (callT SE good 30 cmp_Less_int__out) (callT SE good 31 slices_isNaN_int__out)
theorem Cr16 : C16 (callG SE good) (callT SE good 30 cmp_Less_int__out) (callT SE good 31 slices_isNaN_int__out) = bindC (callG SE good) := by unfold C16; rw [updC_real (fun _ h => h), updC_real (fun _ h => h)]
noncomputable abbrev Q16_3 (a0 : (List (List D))) (a1 : Int) (a2 : Int) (a3 : Int) (a4 : Int) : Res := R16_3 X16 (lam2 SE (callG SE good) (SE.hl 16) (SE.hr 16)) (J0 SE X16) a0 a1 a2 a3 a4
theorem slices_BinarySearch___int_int__l3_ok : ∀ (fu : Nat) (x0 : (List Int)) (x1 : Int) (x6 : Int) (x7 : Int) (x8 : Int), Le (Option.map slices_BinarySearch___int_int__out (slices_BinarySearch___int_int__l3 fu x0 x1 x6 x7 x8)) (Q16_3 (List.map (encI .i64) x0) x1 x6 x7 x8) := by
  intro fu
  induction fu with
  | zero => intros; exact le_none
  | succ fu ih =>
    intro x0 x1 x6 x7 x8
    refine Le.trans ?_ (le_of_eq ((lab_realC Cr16).trans (T16_3 _ _ _ _ _  x0 x1 x6 x7 x8)).symm)
    unfold slices_BinarySearch___int_int__l3
    refine le_cond rfl (fun _ => ?_) (fun _ => ?_)
    · skip
      refine le_cond (by simp only [EN]) (fun _ => ?_) (fun _ => le_none)
      refine le_call (good := good) (fun y => ⟨y, rfl⟩) cmp_Less_int__inj (by first | (simp only [EN]; exact cmp_Less_int__ok (List.getD x0 (Int.toNat (IntKind.wrap .i64 (shr .u64 (IntKind.wrap .u64 (IntKind.wrap .i64 (x7 + x8))) 1))) default) x1) | exact cmp_Less_int__ok (List.getD x0 (Int.toNat (IntKind.wrap .i64 (shr .u64 (IntKind.wrap .u64 (IntKind.wrap .i64 (x7 + x8))) 1))) default) x1) (fun r0 _ => ?_)
      refine le_cond rfl (fun _ => ?_) (fun _ => ?_)
      · skip
        exact ih x0 x1 x6 (IntKind.wrap .i64 ((IntKind.wrap .i64 (shr .u64 (IntKind.wrap .u64 (IntKind.wrap .i64 (x7 + x8))) 1)) + 1)) x8
      · skip
        exact ih x0 x1 x6 x7 (IntKind.wrap .i64 (shr .u64 (IntKind.wrap .u64 (IntKind.wrap .i64 (x7 + x8))) 1))
    · skip
      refine le_cond rfl (fun _ => ?_) (fun _ => ?_)
      · skip
        refine le_cond (by simp only [EN]) (fun _ => ?_) (fun _ => le_none)
        refine le_cond (by simp only [EN]) (fun _ => ?_) (fun _ => ?_)
        · skip
          exact le_ret (by first | rfl | (simp only [EN, slices_BinarySearch___int_int__out]; done) | (simp only [EN, slices_BinarySearch___int_int__out]; rfl))
        · skip
          refine le_cond (by simp only [EN]) (fun _ => ?_) (fun _ => le_none)
          refine le_call (good := good) (fun y => ⟨y, rfl⟩) slices_isNaN_int__inj (by first | (simp only [EN]; exact slices_isNaN_int__ok (List.getD x0 (Int.toNat x7) default)) | exact slices_isNaN_int__ok (List.getD x0 (Int.toNat x7) default)) (fun r1 _ => ?_)
          refine le_cond rfl (fun _ => ?_) (fun _ => ?_)
          · skip
            refine le_call (good := good) (fun y => ⟨y, rfl⟩) slices_isNaN_int__inj (slices_isNaN_int__ok x1) (fun r2 _ => ?_)
            exact le_ret (by first | rfl | (simp only [EN, slices_BinarySearch___int_int__out]; done) | (simp only [EN, slices_BinarySearch___int_int__out]; rfl))
          · skip
            exact le_ret (by first | rfl | (simp only [EN, slices_BinarySearch___int_int__out]; done) | (simp only [EN, slices_BinarySearch___int_int__out]; rfl))
      · skip
        exact le_ret (by first | rfl | (simp only [EN, slices_BinarySearch___int_int__out]; done) | (simp only [EN, slices_BinarySearch___int_int__out]; rfl))
theorem slices_BinarySearch___int_int__ok (p0 : (List Int)) (p1 : Int) : Le (Option.map slices_BinarySearch___int_int__out (slices_BinarySearch___int_int_ p0 p1)) (callW SE 16 [.d (.sl [.int .i64] (List.map (encI .i64) p0)), .d (.int .i64 p1)] [] []) := by
  refine le_bodyC Cr16 rfl ?_
  refine Le.trans ?_ (le_of_eq (T16 _ _ _ _ _  p0 p1).symm)
  unfold slices_BinarySearch___int_int_
  first | (simp only [EN]; exact slices_BinarySearch___int_int__l3_ok fuel p0 p1 (List.length p0 : Int) 0 (List.length p0 : Int)) | exact slices_BinarySearch___int_int__l3_ok fuel p0 p1 (List.length p0 : Int) 0 (List.length p0 : Int)
def C8 (Γ : Fun) (γ16 : Gm (Int × Bool)) : CFun := updC (bindC Γ) 16 slices_BinarySearch___int_int__out γ16
theorem T8 (Γ : Fun) (γ16 : Gm (Int × Bool)) (Λ2 J : Lam) (p0 : api_Inbox) (p1 : Int) : bodyC SE (C8 Γ γ16) Λ2 J 8 [api_Inbox.av p0, .d (.int .i64 p1)] [] [] =
  γ16 [.d (.sl [.int .i64] (List.map (encI .i64) p0.IDs)), .d (.int .i64 p1)] [] [] fun r0 =>
  (some (.ret [.d (.bool r0.2)] [] [])) := by kernel_rfl
abbrev X8 : CFun := C8 (callG SE good) (callT SE good 16 slices_BinarySearch___int_int__out)
theorem Cr8 : C8 (callG SE good) (callT SE good 16 slices_BinarySearch___int_int__out) = bindC (callG SE good) := by unfold C8; rw [updC_real (fun _ h => h)]
theorem inbound_Has_ok (p0 : api_Inbox) (p1 : Int) : Le (Option.map inbound_Has_out (inbound_Has p0 p1)) (callW SE 8 [api_Inbox.av p0, .d (.int .i64 p1)] [] []) := by
  refine le_bodyC Cr8 rfl ?_
  refine Le.trans ?_ (le_of_eq (T8 _ _ _ _  p0 p1).symm)
  unfold inbound_Has
  refine le_call (good := good) (fun y => ⟨y, rfl⟩) slices_BinarySearch___int_int__inj (slices_BinarySearch___int_int__ok p0.IDs p1) (fun r0 _ => ?_)
  exact le_ret (by first | rfl | (simp only [EN, inbound_Has_out]; done) | (simp only [EN, inbound_Has_out]; rfl))
def C27 (Γ : Fun)  : CFun := bindC Γ
theorem T27 (Γ : Fun)  (Λ2 J : Lam) (p0 : (List Int)) : bodyC SE (C27 Γ) Λ2 J 27 [.d (.sl [.int .i64] (List.map (encI .i64) p0))] [] [] =
  cond (List.isEmpty (List.map (encI .i64) p0)) (
   bothR (
    (some (.ret [.row 0] [] [⟨[.int .i64], 3, 8, []⟩]))) (
    cond (decide ((List.length (List.map (encI .i64) []) + List.length (List.map (encI .i64) p0)) * 8 ≤ 140737488355328)) (
     (some (.ret [.row 0] [] [⟨[.int .i64], 3, 8, ((List.map (encI .i64) []) ++ (List.map (encI .i64) p0))⟩]))) none)) (
  cond (decide ((List.length (List.map (encI .i64) []) + List.length (List.map (encI .i64) p0)) * 8 ≤ 140737488355328)) (
   (some (.ret [.row 0] [] [⟨[.int .i64], 3, 8, ((List.map (encI .i64) []) ++ (List.map (encI .i64) p0))⟩]))) none) := by kernel_rfl
abbrev X27 : CFun := C27 (callG SE good)
theorem Cr27 : C27 (callG SE good) = bindC (callG SE good) := by unfold C27; rfl
theorem slices_Clone___int_int__ok (p0 : (List Int)) : Le (Option.map slices_Clone___int_int__out (slices_Clone___int_int_ p0)) (callW SE 27 [.d (.sl [.int .i64] (List.map (encI .i64) p0))] [] []) := by
  refine le_bodyC Cr27 rfl ?_
  refine Le.trans ?_ (le_of_eq (T27 _ _ _  p0).symm)
  unfold slices_Clone___int_int_
  refine le_cond (by simp only [EN]) (fun _ => ?_) (fun _ => ?_)
  · skip
    refine le_both ?_ ?_
    · skip
      exact le_ret (by first | rfl | (simp only [EN, slices_Clone___int_int__out]; done) | (simp only [EN, slices_Clone___int_int__out]; rfl))
    · skip
      refine le_cond (by simp only [EN]) (fun _ => ?_) (fun _ => le_none)
      exact le_ret (by first | rfl | (simp only [EN, slices_Clone___int_int__out]; done) | (simp only [EN, slices_Clone___int_int__out]; rfl))
  · skip
    refine le_cond (by simp only [EN]) (fun _ => ?_) (fun _ => le_none)
    exact le_ret (by first | rfl | (simp only [EN, slices_Clone___int_int__out]; done) | (simp only [EN, slices_Clone___int_int__out]; rfl))
theorem slices_Insert___int_int__ok (p0 : (List Int)) (p1 : Int) (p2 : (List Int)) : Le (Option.map slices_Insert___int_int__out (slices_Insert___int_int_ p0 p1 p2)) (callW SE 44 [.row 2000000000, .d (.int .i64 p1), .row 2000000001] [] [⟨[.int .i64], 3, 8, (List.map (encI .i64) p0)⟩, ⟨[.int .i64], 3, 8, (List.map (encI .i64) p2)⟩]) := le_insert (f := 44) (enc := (encI .i64)) rfl rfl p0 p1 p2
def C28 (Γ : Fun) (γ16 : Gm (Int × Bool)) (γ27 : Gm ((List Int))) (γ44 : Gm ((List Int))) : CFun := updC (updC (updC (bindC Γ) 16 slices_BinarySearch___int_int__out γ16) 27 slices_Clone___int_int__out γ27) 44 slices_Insert___int_int__out γ44
theorem T28 (Γ : Fun) (γ16 : Gm (Int × Bool)) (γ27 : Gm ((List Int))) (γ44 : Gm ((List Int))) (Λ2 J : Lam) (p0 : (List Int)) (p1 : Int) : bodyC SE (C28 Γ γ16 γ27 γ44) Λ2 J 28 [.d (.sl [.int .i64] (List.map (encI .i64) p0)), .d (.int .i64 p1)] [] [] =
  γ16 [.d (.sl [.int .i64] (List.map (encI .i64) p0)), .d (.int .i64 p1)] [] [] fun r0 =>
  cond r0.2 (
   γ27 [.d (.sl [.int .i64] (List.map (encI .i64) p0))] [] [] fun r1 =>
   (some (.ret [.row 0] [] [⟨[.int .i64], 3, 8, (List.map (encI .i64) r1)⟩]))) (
  γ27 [.d (.sl [.int .i64] (List.map (encI .i64) p0))] [] [] fun r2 =>
  γ44 [.row 2000000000, .d (.int .i64 r0.1), .row 2000000001] [] [⟨[.int .i64], 3, 8, (List.map (encI .i64) r2)⟩, ⟨[.int .i64], 3, 8, (List.map (encI .i64) [p1])⟩] fun r3 =>
  (some (.ret [.row 0] [] [⟨[.int .i64], 3, 8, (List.map (encI .i64) r3)⟩]))) := by kernel_rfl
abbrev X28 : CFun := C28 (callG SE good) (callT SE good 16 slices_BinarySearch___int_int__out) (callT SE good 27 slices_Clone___int_int__out) (callT SE good 44 slices_Insert___int_int__out)
theorem Cr28 : C28 (callG SE good) (callT SE good 16 slices_BinarySearch___int_int__out) (callT SE good 27 slices_Clone___int_int__out) (callT SE good 44 slices_Insert___int_int__out) = bindC (callG SE good) := by unfold C28; rw [updC_real (fun _ h => h), updC_real (fun _ h => h), updC_real (fun _ h => h)]
theorem inbound_insert_int__ok (p0 : (List Int)) (p1 : Int) : Le (Option.map inbound_insert_int__out (inbound_insert_int_ p0 p1)) (callW SE 28 [.d (.sl [.int .i64] (List.map (encI .i64) p0)), .d (.int .i64 p1)] [] []) := by
  refine le_bodyC Cr28 rfl ?_
  refine Le.trans ?_ (le_of_eq (T28 _ _ _ _ _ _  p0 p1).symm)
  unfold inbound_insert_int_
  refine le_call (good := good) (fun y => ⟨y, rfl⟩) slices_BinarySearch___int_int__inj (slices_BinarySearch___int_int__ok p0 p1) (fun r0 _ => ?_)
  refine le_cond rfl (fun _ => ?_) (fun _ => ?_)
  · skip
    refine le_call (good := good) (fun y => ⟨y, rfl⟩) slices_Clone___int_int__inj (slices_Clone___int_int__ok p0) (fun r1 _ => ?_)
    exact le_ret (by first | rfl | (simp only [EN, inbound_insert_int__out]; done) | (simp only [EN, inbound_insert_int__out]; rfl))
  · skip
    refine le_call (good := good) (fun y => ⟨y, rfl⟩) slices_Clone___int_int__inj (slices_Clone___int_int__ok p0) (fun r2 _ => ?_)
    refine le_call (good := good) (fun y => ⟨y, rfl⟩) slices_Insert___int_int__inj (slices_Insert___int_int__ok r2 r0.1 [p1]) (fun r3 _ => ?_)
    exact le_ret (by first | rfl | (simp only [EN, inbound_insert_int__out]; done) | (simp only [EN, inbound_insert_int__out]; rfl))
def C29 (Γ : Fun)  : CFun := bindC Γ
theorem T29 (Γ : Fun)  (Λ2 J : Lam) (p0 : api_Packet) : bodyC SE (C29 Γ) Λ2 J 29 [api_Packet.av p0] [] [] =
  cond (p0.Kind == 3) (
   cond (p0.Message.Level == 1) (
    (some (.ret [.agg [.d (.int .i64 4), .d (.int .i64 p0.ID), .d (.bool false), .d (.str ([] : Str)), .d (.str ([] : Str)), .d (.int .i64 0), .d (.bool false), .d (.int .i64 0), .d (.int .i64 0), .d (.str ([] : Str)), .d (.int .i64 0), .d (.sl api_Prop.ks (List.map api_Prop.enc [])), .d (.str ([] : Str)), .d (.str ([] : Str)), .d (.bool false), .d (.int .i64 0), .d (.int .i64 0), .d (.int .i64 0), .d (.bool false), .d (.int .i64 0), .d (.str ([] : Str)), .d (.str ([] : Str)), .d (.int .i64 0), .d (.bool false), .d (.int .i64 0), .d (.int .i64 0), .d (.str ([] : Str)), .d (.int .i64 0), .d (.sl api_Prop.ks (List.map api_Prop.enc [])), .d (.bool false), .d (.int .i64 0), .d (.sl api_Sub.ks (List.map api_Sub.enc [])), .d (.sl [.str] (List.map encS [])), .d (.sl [.int .i64] (List.map (encI .i64) []))], .d (.bool true)] [] []))) (
   cond (p0.Kind == 3) (
    cond (p0.Message.Level == 2) (
     (some (.ret [.agg [.d (.int .i64 5), .d (.int .i64 p0.ID), .d (.bool false), .d (.str ([] : Str)), .d (.str ([] : Str)), .d (.int .i64 0), .d (.bool false), .d (.int .i64 0), .d (.int .i64 0), .d (.str ([] : Str)), .d (.int .i64 0), .d (.sl api_Prop.ks (List.map api_Prop.enc [])), .d (.str ([] : Str)), .d (.str ([] : Str)), .d (.bool false), .d (.int .i64 0), .d (.int .i64 0), .d (.int .i64 0), .d (.bool false), .d (.int .i64 0), .d (.str ([] : Str)), .d (.str ([] : Str)), .d (.int .i64 0), .d (.bool false), .d (.int .i64 0), .d (.int .i64 0), .d (.str ([] : Str)), .d (.int .i64 0), .d (.sl api_Prop.ks (List.map api_Prop.enc [])), .d (.bool false), .d (.int .i64 0), .d (.sl api_Sub.ks (List.map api_Sub.enc [])), .d (.sl [.str] (List.map encS [])), .d (.sl [.int .i64] (List.map (encI .i64) []))], .d (.bool true)] [] []))) (
    cond (p0.Kind == 5) (
     (some (.ret [.agg [.d (.int .i64 6), .d (.int .i64 p0.ID), .d (.bool false), .d (.str ([] : Str)), .d (.str ([] : Str)), .d (.int .i64 0), .d (.bool false), .d (.int .i64 0), .d (.int .i64 0), .d (.str ([] : Str)), .d (.int .i64 0), .d (.sl api_Prop.ks (List.map api_Prop.enc [])), .d (.str ([] : Str)), .d (.str ([] : Str)), .d (.bool false), .d (.int .i64 0), .d (.int .i64 0), .d (.int .i64 0), .d (.bool false), .d (.int .i64 0), .d (.str ([] : Str)), .d (.str ([] : Str)), .d (.int .i64 0), .d (.bool false), .d (.int .i64 0), .d (.int .i64 0), .d (.str ([] : Str)), .d (.int .i64 0), .d (.sl api_Prop.ks (List.map api_Prop.enc [])), .d (.bool false), .d (.int .i64 0), .d (.sl api_Sub.ks (List.map api_Sub.enc [])), .d (.sl [.str] (List.map encS [])), .d (.sl [.int .i64] (List.map (encI .i64) []))], .d (.bool true)] [] []))) (
    cond (p0.Kind == 6) (
     (some (.ret [.agg [.d (.int .i64 7), .d (.int .i64 p0.ID), .d (.bool false), .d (.str ([] : Str)), .d (.str ([] : Str)), .d (.int .i64 0), .d (.bool false), .d (.int .i64 0), .d (.int .i64 0), .d (.str ([] : Str)), .d (.int .i64 0), .d (.sl api_Prop.ks (List.map api_Prop.enc [])), .d (.str ([] : Str)), .d (.str ([] : Str)), .d (.bool false), .d (.int .i64 0), .d (.int .i64 0), .d (.int .i64 0), .d (.bool false), .d (.int .i64 0), .d (.str ([] : Str)), .d (.str ([] : Str)), .d (.int .i64 0), .d (.bool false), .d (.int .i64 0), .d (.int .i64 0), .d (.str ([] : Str)), .d (.int .i64 0), .d (.sl api_Prop.ks (List.map api_Prop.enc [])), .d (.bool false), .d (.int .i64 0), .d (.sl api_Sub.ks (List.map api_Sub.enc [])), .d (.sl [.str] (List.map encS [])), .d (.sl [.int .i64] (List.map (encI .i64) []))], .d (.bool true)] [] []))) (
    cond (p0.Kind == 12) (
     (some (.ret [.agg [.d (.int .i64 13), .d (.int .i64 p0.ID), .d (.bool false), .d (.str ([] : Str)), .d (.str ([] : Str)), .d (.int .i64 0), .d (.bool false), .d (.int .i64 0), .d (.int .i64 0), .d (.str ([] : Str)), .d (.int .i64 0), .d (.sl api_Prop.ks (List.map api_Prop.enc [])), .d (.str ([] : Str)), .d (.str ([] : Str)), .d (.bool false), .d (.int .i64 0), .d (.int .i64 0), .d (.int .i64 0), .d (.bool false), .d (.int .i64 0), .d (.str ([] : Str)), .d (.str ([] : Str)), .d (.int .i64 0), .d (.bool false), .d (.int .i64 0), .d (.int .i64 0), .d (.str ([] : Str)), .d (.int .i64 0), .d (.sl api_Prop.ks (List.map api_Prop.enc [])), .d (.bool false), .d (.int .i64 0), .d (.sl api_Sub.ks (List.map api_Sub.enc [])), .d (.sl [.str] (List.map encS [])), .d (.sl [.int .i64] (List.map (encI .i64) []))], .d (.bool true)] [] []))) (
    (some (.ret [.agg [.d (.int .i64 0), .d (.int .i64 0), .d (.bool false), .d (.str ([] : Str)), .d (.str ([] : Str)), .d (.int .i64 0), .d (.bool false), .d (.int .i64 0), .d (.int .i64 0), .d (.str ([] : Str)), .d (.int .i64 0), .d (.sl api_Prop.ks (List.map api_Prop.enc [])), .d (.str ([] : Str)), .d (.str ([] : Str)), .d (.bool false), .d (.int .i64 0), .d (.int .i64 0), .d (.int .i64 0), .d (.bool false), .d (.int .i64 0), .d (.str ([] : Str)), .d (.str ([] : Str)), .d (.int .i64 0), .d (.bool false), .d (.int .i64 0), .d (.int .i64 0), .d (.str ([] : Str)), .d (.int .i64 0), .d (.sl api_Prop.ks (List.map api_Prop.enc [])), .d (.bool false), .d (.int .i64 0), .d (.sl api_Sub.ks (List.map api_Sub.enc [])), .d (.sl [.str] (List.map encS [])), .d (.sl [.int .i64] (List.map (encI .i64) []))], .d (.bool false)] [] []))))))) (
   cond (p0.Kind == 5) (
    (some (.ret [.agg [.d (.int .i64 6), .d (.int .i64 p0.ID), .d (.bool false), .d (.str ([] : Str)), .d (.str ([] : Str)), .d (.int .i64 0), .d (.bool false), .d (.int .i64 0), .d (.int .i64 0), .d (.str ([] : Str)), .d (.int .i64 0), .d (.sl api_Prop.ks (List.map api_Prop.enc [])), .d (.str ([] : Str)), .d (.str ([] : Str)), .d (.bool false), .d (.int .i64 0), .d (.int .i64 0), .d (.int .i64 0), .d (.bool false), .d (.int .i64 0), .d (.str ([] : Str)), .d (.str ([] : Str)), .d (.int .i64 0), .d (.bool false), .d (.int .i64 0), .d (.int .i64 0), .d (.str ([] : Str)), .d (.int .i64 0), .d (.sl api_Prop.ks (List.map api_Prop.enc [])), .d (.bool false), .d (.int .i64 0), .d (.sl api_Sub.ks (List.map api_Sub.enc [])), .d (.sl [.str] (List.map encS [])), .d (.sl [.int .i64] (List.map (encI .i64) []))], .d (.bool true)] [] []))) (
   cond (p0.Kind == 6) (
    (some (.ret [.agg [.d (.int .i64 7), .d (.int .i64 p0.ID), .d (.bool false), .d (.str ([] : Str)), .d (.str ([] : Str)), .d (.int .i64 0), .d (.bool false), .d (.int .i64 0), .d (.int .i64 0), .d (.str ([] : Str)), .d (.int .i64 0), .d (.sl api_Prop.ks (List.map api_Prop.enc [])), .d (.str ([] : Str)), .d (.str ([] : Str)), .d (.bool false), .d (.int .i64 0), .d (.int .i64 0), .d (.int .i64 0), .d (.bool false), .d (.int .i64 0), .d (.str ([] : Str)), .d (.str ([] : Str)), .d (.int .i64 0), .d (.bool false), .d (.int .i64 0), .d (.int .i64 0), .d (.str ([] : Str)), .d (.int .i64 0), .d (.sl api_Prop.ks (List.map api_Prop.enc [])), .d (.bool false), .d (.int .i64 0), .d (.sl api_Sub.ks (List.map api_Sub.enc [])), .d (.sl [.str] (List.map encS [])), .d (.sl [.int .i64] (List.map (encI .i64) []))], .d (.bool true)] [] []))) (
   cond (p0.Kind == 12) (
    (some (.ret [.agg [.d (.int .i64 13), .d (.int .i64 p0.ID), .d (.bool false), .d (.str ([] : Str)), .d (.str ([] : Str)), .d (.int .i64 0), .d (.bool false), .d (.int .i64 0), .d (.int .i64 0), .d (.str ([] : Str)), .d (.int .i64 0), .d (.sl api_Prop.ks (List.map api_Prop.enc [])), .d (.str ([] : Str)), .d (.str ([] : Str)), .d (.bool false), .d (.int .i64 0), .d (.int .i64 0), .d (.int .i64 0), .d (.bool false), .d (.int .i64 0), .d (.str ([] : Str)), .d (.str ([] : Str)), .d (.int .i64 0), .d (.bool false), .d (.int .i64 0), .d (.int .i64 0), .d (.str ([] : Str)), .d (.int .i64 0), .d (.sl api_Prop.ks (List.map api_Prop.enc [])), .d (.bool false), .d (.int .i64 0), .d (.sl api_Sub.ks (List.map api_Sub.enc [])), .d (.sl [.str] (List.map encS [])), .d (.sl [.int .i64] (List.map (encI .i64) []))], .d (.bool true)] [] []))) (
   (some (.ret [.agg [.d (.int .i64 0), .d (.int .i64 0), .d (.bool false), .d (.str ([] : Str)), .d (.str ([] : Str)), .d (.int .i64 0), .d (.bool false), .d (.int .i64 0), .d (.int .i64 0), .d (.str ([] : Str)), .d (.int .i64 0), .d (.sl api_Prop.ks (List.map api_Prop.enc [])), .d (.str ([] : Str)), .d (.str ([] : Str)), .d (.bool false), .d (.int .i64 0), .d (.int .i64 0), .d (.int .i64 0), .d (.bool false), .d (.int .i64 0), .d (.str ([] : Str)), .d (.str ([] : Str)), .d (.int .i64 0), .d (.bool false), .d (.int .i64 0), .d (.int .i64 0), .d (.str ([] : Str)), .d (.int .i64 0), .d (.sl api_Prop.ks (List.map api_Prop.enc [])), .d (.bool false), .d (.int .i64 0), .d (.sl api_Sub.ks (List.map api_Sub.enc [])), .d (.sl [.str] (List.map encS [])), .d (.sl [.int .i64] (List.map (encI .i64) []))], .d (.bool false)] [] [])))))))) (
  cond (p0.Kind == 3) (
   cond (p0.Message.Level == 2) (
    (some (.ret [.agg [.d (.int .i64 5), .d (.int .i64 p0.ID), .d (.bool false), .d (.str ([] : Str)), .d (.str ([] : Str)), .d (.int .i64 0), .d (.bool false), .d (.int .i64 0), .d (.int .i64 0), .d (.str ([] : Str)), .d (.int .i64 0), .d (.sl api_Prop.ks (List.map api_Prop.enc [])), .d (.str ([] : Str)), .d (.str ([] : Str)), .d (.bool false), .d (.int .i64 0), .d (.int .i64 0), .d (.int .i64 0), .d (.bool false), .d (.int .i64 0), .d (.str ([] : Str)), .d (.str ([] : Str)), .d (.int .i64 0), .d (.bool false), .d (.int .i64 0), .d (.int .i64 0), .d (.str ([] : Str)), .d (.int .i64 0), .d (.sl api_Prop.ks (List.map api_Prop.enc [])), .d (.bool false), .d (.int .i64 0), .d (.sl api_Sub.ks (List.map api_Sub.enc [])), .d (.sl [.str] (List.map encS [])), .d (.sl [.int .i64] (List.map (encI .i64) []))], .d (.bool true)] [] []))) (
   cond (p0.Kind == 5) (
    (some (.ret [.agg [.d (.int .i64 6), .d (.int .i64 p0.ID), .d (.bool false), .d (.str ([] : Str)), .d (.str ([] : Str)), .d (.int .i64 0), .d (.bool false), .d (.int .i64 0), .d (.int .i64 0), .d (.str ([] : Str)), .d (.int .i64 0), .d (.sl api_Prop.ks (List.map api_Prop.enc [])), .d (.str ([] : Str)), .d (.str ([] : Str)), .d (.bool false), .d (.int .i64 0), .d (.int .i64 0), .d (.int .i64 0), .d (.bool false), .d (.int .i64 0), .d (.str ([] : Str)), .d (.str ([] : Str)), .d (.int .i64 0), .d (.bool false), .d (.int .i64 0), .d (.int .i64 0), .d (.str ([] : Str)), .d (.int .i64 0), .d (.sl api_Prop.ks (List.map api_Prop.enc [])), .d (.bool false), .d (.int .i64 0), .d (.sl api_Sub.ks (List.map api_Sub.enc [])), .d (.sl [.str] (List.map encS [])), .d (.sl [.int .i64] (List.map (encI .i64) []))], .d (.bool true)] [] []))) (
   cond (p0.Kind == 6) (
    (some (.ret [.agg [.d (.int .i64 7), .d (.int .i64 p0.ID), .d (.bool false), .d (.str ([] : Str)), .d (.str ([] : Str)), .d (.int .i64 0), .d (.bool false), .d (.int .i64 0), .d (.int .i64 0), .d (.str ([] : Str)), .d (.int .i64 0), .d (.sl api_Prop.ks (List.map api_Prop.enc [])), .d (.str ([] : Str)), .d (.str ([] : Str)), .d (.bool false), .d (.int .i64 0), .d (.int .i64 0), .d (.int .i64 0), .d (.bool false), .d (.int .i64 0), .d (.str ([] : Str)), .d (.str ([] : Str)), .d (.int .i64 0), .d (.bool false), .d (.int .i64 0), .d (.int .i64 0), .d (.str ([] : Str)), .d (.int .i64 0), .d (.sl api_Prop.ks (List.map api_Prop.enc [])), .d (.bool false), .d (.int .i64 0), .d (.sl api_Sub.ks (List.map api_Sub.enc [])), .d (.sl [.str] (List.map encS [])), .d (.sl [.int .i64] (List.map (encI .i64) []))], .d (.bool true)] [] []))) (
   cond (p0.Kind == 12) (
    (some (.ret [.agg [.d (.int .i64 13), .d (.int .i64 p0.ID), .d (.bool false), .d (.str ([] : Str)), .d (.str ([] : Str)), .d (.int .i64 0), .d (.bool false), .d (.int .i64 0), .d (.int .i64 0), .d (.str ([] : Str)), .d (.int .i64 0), .d (.sl api_Prop.ks (List.map api_Prop.enc [])), .d (.str ([] : Str)), .d (.str ([] : Str)), .d (.bool false), .d (.int .i64 0), .d (.int .i64 0), .d (.int .i64 0), .d (.bool false), .d (.int .i64 0), .d (.str ([] : Str)), .d (.str ([] : Str)), .d (.int .i64 0), .d (.bool false), .d (.int .i64 0), .d (.int .i64 0), .d (.str ([] : Str)), .d (.int .i64 0), .d (.sl api_Prop.ks (List.map api_Prop.enc [])), .d (.bool false), .d (.int .i64 0), .d (.sl api_Sub.ks (List.map api_Sub.enc [])), .d (.sl [.str] (List.map encS [])), .d (.sl [.int .i64] (List.map (encI .i64) []))], .d (.bool true)] [] []))) (
   (some (.ret [.agg [.d (.int .i64 0), .d (.int .i64 0), .d (.bool false), .d (.str ([] : Str)), .d (.str ([] : Str)), .d (.int .i64 0), .d (.bool false), .d (.int .i64 0), .d (.int .i64 0), .d (.str ([] : Str)), .d (.int .i64 0), .d (.sl api_Prop.ks (List.map api_Prop.enc [])), .d (.str ([] : Str)), .d (.str ([] : Str)), .d (.bool false), .d (.int .i64 0), .d (.int .i64 0), .d (.int .i64 0), .d (.bool false), .d (.int .i64 0), .d (.str ([] : Str)), .d (.str ([] : Str)), .d (.int .i64 0), .d (.bool false), .d (.int .i64 0), .d (.int .i64 0), .d (.str ([] : Str)), .d (.int .i64 0), .d (.sl api_Prop.ks (List.map api_Prop.enc [])), .d (.bool false), .d (.int .i64 0), .d (.sl api_Sub.ks (List.map api_Sub.enc [])), .d (.sl [.str] (List.map encS [])), .d (.sl [.int .i64] (List.map (encI .i64) []))], .d (.bool false)] [] []))))))) (
  cond (p0.Kind == 5) (
   (some (.ret [.agg [.d (.int .i64 6), .d (.int .i64 p0.ID), .d (.bool false), .d (.str ([] : Str)), .d (.str ([] : Str)), .d (.int .i64 0), .d (.bool false), .d (.int .i64 0), .d (.int .i64 0), .d (.str ([] : Str)), .d (.int .i64 0), .d (.sl api_Prop.ks (List.map api_Prop.enc [])), .d (.str ([] : Str)), .d (.str ([] : Str)), .d (.bool false), .d (.int .i64 0), .d (.int .i64 0), .d (.int .i64 0), .d (.bool false), .d (.int .i64 0), .d (.str ([] : Str)), .d (.str ([] : Str)), .d (.int .i64 0), .d (.bool false), .d (.int .i64 0), .d (.int .i64 0), .d (.str ([] : Str)), .d (.int .i64 0), .d (.sl api_Prop.ks (List.map api_Prop.enc [])), .d (.bool false), .d (.int .i64 0), .d (.sl api_Sub.ks (List.map api_Sub.enc [])), .d (.sl [.str] (List.map encS [])), .d (.sl [.int .i64] (List.map (encI .i64) []))], .d (.bool true)] [] []))) (
  cond (p0.Kind == 6) (
   (some (.ret [.agg [.d (.int .i64 7), .d (.int .i64 p0.ID), .d (.bool false), .d (.str ([] : Str)), .d (.str ([] : Str)), .d (.int .i64 0), .d (.bool false), .d (.int .i64 0), .d (.int .i64 0), .d (.str ([] : Str)), .d (.int .i64 0), .d (.sl api_Prop.ks (List.map api_Prop.enc [])), .d (.str ([] : Str)), .d (.str ([] : Str)), .d (.bool false), .d (.int .i64 0), .d (.int .i64 0), .d (.int .i64 0), .d (.bool false), .d (.int .i64 0), .d (.str ([] : Str)), .d (.str ([] : Str)), .d (.int .i64 0), .d (.bool false), .d (.int .i64 0), .d (.int .i64 0), .d (.str ([] : Str)), .d (.int .i64 0), .d (.sl api_Prop.ks (List.map api_Prop.enc [])), .d (.bool false), .d (.int .i64 0), .d (.sl api_Sub.ks (List.map api_Sub.enc [])), .d (.sl [.str] (List.map encS [])), .d (.sl [.int .i64] (List.map (encI .i64) []))], .d (.bool true)] [] []))) (
  cond (p0.Kind == 12) (
   (some (.ret [.agg [.d (.int .i64 13), .d (.int .i64 p0.ID), .d (.bool false), .d (.str ([] : Str)), .d (.str ([] : Str)), .d (.int .i64 0), .d (.bool false), .d (.int .i64 0), .d (.int .i64 0), .d (.str ([] : Str)), .d (.int .i64 0), .d (.sl api_Prop.ks (List.map api_Prop.enc [])), .d (.str ([] : Str)), .d (.str ([] : Str)), .d (.bool false), .d (.int .i64 0), .d (.int .i64 0), .d (.int .i64 0), .d (.bool false), .d (.int .i64 0), .d (.str ([] : Str)), .d (.str ([] : Str)), .d (.int .i64 0), .d (.bool false), .d (.int .i64 0), .d (.int .i64 0), .d (.str ([] : Str)), .d (.int .i64 0), .d (.sl api_Prop.ks (List.map api_Prop.enc [])), .d (.bool false), .d (.int .i64 0), .d (.sl api_Sub.ks (List.map api_Sub.enc [])), .d (.sl [.str] (List.map encS [])), .d (.sl [.int .i64] (List.map (encI .i64) []))], .d (.bool true)] [] []))) (
  (some (.ret [.agg [.d (.int .i64 0), .d (.int .i64 0), .d (.bool false), .d (.str ([] : Str)), .d (.str ([] : Str)), .d (.int .i64 0), .d (.bool false), .d (.int .i64 0), .d (.int .i64 0), .d (.str ([] : Str)), .d (.int .i64 0), .d (.sl api_Prop.ks (List.map api_Prop.enc [])), .d (.str ([] : Str)), .d (.str ([] : Str)), .d (.bool false), .d (.int .i64 0), .d (.int .i64 0), .d (.int .i64 0), .d (.bool false), .d (.int .i64 0), .d (.str ([] : Str)), .d (.str ([] : Str)), .d (.int .i64 0), .d (.bool false), .d (.int .i64 0), .d (.int .i64 0), .d (.str ([] : Str)), .d (.int .i64 0), .d (.sl api_Prop.ks (List.map api_Prop.enc [])), .d (.bool false), .d (.int .i64 0), .d (.sl api_Sub.ks (List.map api_Sub.enc [])), .d (.sl [.str] (List.map encS [])), .d (.sl [.int .i64] (List.map (encI .i64) []))], .d (.bool false)] [] []))))))) := by kernel_rfl
abbrev X29 : CFun := C29 (callG SE good)
theorem Cr29 : C29 (callG SE good) = bindC (callG SE good) := by unfold C29; rfl
theorem packet_Answer_ok (p0 : api_Packet) : Le (Option.map packet_Answer_out (packet_Answer p0)) (callW SE 29 [api_Packet.av p0] [] []) := by
  refine le_bodyC Cr29 rfl ?_
  refine Le.trans ?_ (le_of_eq (T29 _ _ _  p0).symm)
  unfold packet_Answer
  refine le_cond rfl (fun _ => ?_) (fun _ => ?_)
  · skip
    refine le_cond rfl (fun _ => ?_) (fun _ => ?_)
    · skip
      exact le_ret (by first | rfl | (simp only [EN, packet_Answer_out]; done) | (simp only [EN, packet_Answer_out]; rfl))
    · skip
      refine le_cond rfl (fun _ => ?_) (fun _ => ?_)
      · skip
        refine le_cond rfl (fun _ => ?_) (fun _ => ?_)
        · skip
          exact le_ret (by first | rfl | (simp only [EN, packet_Answer_out]; done) | (simp only [EN, packet_Answer_out]; rfl))
        · skip
          refine le_cond rfl (fun _ => ?_) (fun _ => ?_)
          · skip
            exact le_ret (by first | rfl | (simp only [EN, packet_Answer_out]; done) | (simp only [EN, packet_Answer_out]; rfl))
          · skip
            refine le_cond rfl (fun _ => ?_) (fun _ => ?_)
            · skip
              exact le_ret (by first | rfl | (simp only [EN, packet_Answer_out]; done) | (simp only [EN, packet_Answer_out]; rfl))
            · skip
              refine le_cond rfl (fun _ => ?_) (fun _ => ?_)
              · skip
                exact le_ret (by first | rfl | (simp only [EN, packet_Answer_out]; done) | (simp only [EN, packet_Answer_out]; rfl))
              · skip
                exact le_ret (by first | rfl | (simp only [EN, packet_Answer_out]; done) | (simp only [EN, packet_Answer_out]; rfl))
      · skip
        refine le_cond rfl (fun _ => ?_) (fun _ => ?_)
        · skip
          exact le_ret (by first | rfl | (simp only [EN, packet_Answer_out]; done) | (simp only [EN, packet_Answer_out]; rfl))
        · skip
          refine le_cond rfl (fun _ => ?_) (fun _ => ?_)
          · skip
            exact le_ret (by first | rfl | (simp only [EN, packet_Answer_out]; done) | (simp only [EN, packet_Answer_out]; rfl))
          · skip
            refine le_cond rfl (fun _ => ?_) (fun _ => ?_)
            · skip
              exact le_ret (by first | rfl | (simp only [EN, packet_Answer_out]; done) | (simp only [EN, packet_Answer_out]; rfl))
            · skip
              exact le_ret (by first | rfl | (simp only [EN, packet_Answer_out]; done) | (simp only [EN, packet_Answer_out]; rfl))
  · skip
    refine le_cond rfl (fun _ => ?_) (fun _ => ?_)
    · skip
      refine le_cond rfl (fun _ => ?_) (fun _ => ?_)
      · skip
        exact le_ret (by first | rfl | (simp only [EN, packet_Answer_out]; done) | (simp only [EN, packet_Answer_out]; rfl))
      · skip
        refine le_cond rfl (fun _ => ?_) (fun _ => ?_)
        · skip
          exact le_ret (by first | rfl | (simp only [EN, packet_Answer_out]; done) | (simp only [EN, packet_Answer_out]; rfl))
        · skip
          refine le_cond rfl (fun _ => ?_) (fun _ => ?_)
          · skip
            exact le_ret (by first | rfl | (simp only [EN, packet_Answer_out]; done) | (simp only [EN, packet_Answer_out]; rfl))
          · skip
            refine le_cond rfl (fun _ => ?_) (fun _ => ?_)
            · skip
              exact le_ret (by first | rfl | (simp only [EN, packet_Answer_out]; done) | (simp only [EN, packet_Answer_out]; rfl))
            · skip
              exact le_ret (by first | rfl | (simp only [EN, packet_Answer_out]; done) | (simp only [EN, packet_Answer_out]; rfl))
    · skip
      refine le_cond rfl (fun _ => ?_) (fun _ => ?_)
      · skip
        exact le_ret (by first | rfl | (simp only [EN, packet_Answer_out]; done) | (simp only [EN, packet_Answer_out]; rfl))
      · skip
        refine le_cond rfl (fun _ => ?_) (fun _ => ?_)
        · skip
          exact le_ret (by first | rfl | (simp only [EN, packet_Answer_out]; done) | (simp only [EN, packet_Answer_out]; rfl))
        · skip
          refine le_cond rfl (fun _ => ?_) (fun _ => ?_)
          · skip
            exact le_ret (by first | rfl | (simp only [EN, packet_Answer_out]; done) | (simp only [EN, packet_Answer_out]; rfl))
          · skip
            exact le_ret (by first | rfl | (simp only [EN, packet_Answer_out]; done) | (simp only [EN, packet_Answer_out]; rfl))
def C14 (Γ : Fun) (γ26 : Gm (Int)) (γ8 : Gm (Bool)) (γ27 : Gm ((List Int))) (γ28 : Gm ((List Int))) (γ29 : Gm (api_Packet × Bool)) : CFun := updC (updC (updC (updC (updC (bindC Γ) 26 packet_Check_out γ26) 8 inbound_Has_out γ8) 27 slices_Clone___int_int__out γ27) 28 inbound_insert_int__out γ28) 29 packet_Answer_out γ29
def R14_12 (C : CFun) (Λ2 J : Lam) (a0 : Bool) (a1 : (List D)) (a2 : (List D)) (a3 : (List (List D))) : Res := lab SE C Λ2 J 14 0 [1, 1, 1, 1, 1, 1, 1, 0] (stoOf [(3, .ptr 1000000000 0), (4, .ptr 1000000001 0), (9, .d (.bool a0)), (10, .ptr 1000000002 0)] [⟨37, (List.map AV.d a1)⟩, ⟨24, (List.map AV.d a2)⟩, ⟨24, [.row 50200]⟩] [] [] [(50200, ⟨[.int .i64], 3, 8, a3⟩)])
def R14_9 (C : CFun) (Λ2 J : Lam) (a0 : Bool) (a1 : (List D)) (a2 : (List D)) (a3 : (List D)) : Res := lab SE C Λ2 J 14 0 [1, 1, 1, 1, 1, 0] (stoOf [(2, .ptr 1000000000 0), (3, .ptr 1000000001 0), (4, .ptr 1000000002 0), (9, .d (.bool a0))] [⟨24, (List.map AV.d a1)⟩, ⟨37, (List.map AV.d a2)⟩, ⟨24, (List.map AV.d a3)⟩] [] [] [])
def R14_7 (C : CFun) (Λ2 J : Lam) (a0 : Bool) (a1 : (List D)) (a2 : (List D)) (a3 : (List D)) : Res := lab SE C Λ2 J 14 0 [1, 1, 1, 1, 0, 0] (stoOf [(2, .ptr 1000000000 0), (3, .ptr 1000000001 0), (4, .ptr 1000000002 0), (9, .d (.bool a0))] [⟨24, (List.map AV.d a1)⟩, ⟨37, (List.map AV.d a2)⟩, ⟨24, (List.map AV.d a3)⟩] [] [] [])
theorem T14 (Γ : Fun) (γ26 : Gm (Int)) (γ8 : Gm (Bool)) (γ27 : Gm ((List Int))) (γ28 : Gm ((List Int))) (γ29 : Gm (api_Packet × Bool)) (Λ2 J : Lam) (p0 : api_Inbox) (p1 : api_Packet) : bodyC SE (C14 Γ γ26 γ8 γ27 γ28 γ29) Λ2 J 14 [api_Inbox.av p0, api_Packet.av p1] [] [] =
  cond (p1.Kind != 3) (
   (some (.ret [.agg [.d (.sl [.int .i64] (List.map (encI .i64) []))], .d (.bool false), .row 0, .d (.int .i64 10)] [] [⟨api_Packet.ks, 37, 416, []⟩]))) (
  γ26 [api_Packet.av p1] [] [] fun r0 =>
  cond (r0 != 0) (
   (some (.ret [.agg [.d (.sl [.int .i64] (List.map (encI .i64) []))], .d (.bool false), .row 0, .d (.int .i64 r0)] [] [⟨api_Packet.ks, 37, 416, []⟩]))) (
  cond (decide (p1.Message.Level < 2)) (
   R14_7 (C14 Γ γ26 γ8 γ27 γ28 γ29) Λ2 J true (api_Inbox.enc p0) (api_Packet.enc p1) [D.sl [.int .i64] (List.map (encI .i64) [])]) (
  γ8 [api_Inbox.av p0, .d (.int .i64 p1.ID)] [] [] fun r1 =>
  R14_7 (C14 Γ γ26 γ8 γ27 γ28 γ29) Λ2 J (!r1) (api_Inbox.enc p0) (api_Packet.enc p1) [D.sl [.int .i64] (List.map (encI .i64) [])]))) := by kernel_rfl
theorem T14_12 (Γ : Fun) (γ26 : Gm (Int)) (γ8 : Gm (Bool)) (γ27 : Gm ((List Int))) (γ28 : Gm ((List Int))) (γ29 : Gm (api_Packet × Bool)) (Λ2 J : Lam) (x9 : Bool) (b0 : api_Packet) (b1 : api_Inbox) (w50200 : (List Int)) : labU SE (C14 Γ γ26 γ8 γ27 γ28 γ29) Λ2 J 14 0 [1, 1, 1, 1, 1, 1, 1, 0] (stoOf [(3, .ptr 1000000000 0), (4, .ptr 1000000001 0), (9, .d (.bool x9)), (10, .ptr 1000000002 0)] [⟨37, (List.map AV.d (api_Packet.enc b0))⟩, ⟨24, (List.map AV.d (api_Inbox.enc b1))⟩, ⟨24, [.row 50200]⟩] [] [] [(50200, ⟨[.int .i64], 3, 8, (List.map (encI .i64) w50200)⟩)]) =
  γ29 [api_Packet.av b0] [] [] fun r4 =>
  cond (!r4.2) (
   (some (.ret [api_Inbox.av (api_Inbox.mk w50200), .d (.bool x9), .row 0, .d (.int .i64 0)] [] [⟨api_Packet.ks, 37, 416, []⟩]))) (
  (some (.ret [api_Inbox.av (api_Inbox.mk w50200), .d (.bool x9), .row 0, .d (.int .i64 0)] [] [⟨api_Packet.ks, 37, 416, (List.map api_Packet.enc [r4.1])⟩]))) := by kernel_rfl
theorem T14_9 (Γ : Fun) (γ26 : Gm (Int)) (γ8 : Gm (Bool)) (γ27 : Gm ((List Int))) (γ28 : Gm ((List Int))) (γ29 : Gm (api_Packet × Bool)) (Λ2 J : Lam) (x9 : Bool) (b0 : api_Inbox) (b1 : api_Packet) (b2 : api_Inbox) : labU SE (C14 Γ γ26 γ8 γ27 γ28 γ29) Λ2 J 14 0 [1, 1, 1, 1, 1, 0] (stoOf [(2, .ptr 1000000000 0), (3, .ptr 1000000001 0), (4, .ptr 1000000002 0), (9, .d (.bool x9))] [⟨24, (List.map AV.d (api_Inbox.enc b0))⟩, ⟨37, (List.map AV.d (api_Packet.enc b1))⟩, ⟨24, (List.map AV.d (api_Inbox.enc b2))⟩] [] [] []) =
  γ27 [.d (.sl [.int .i64] (List.map (encI .i64) b0.IDs))] [] [] fun r2 =>
  cond (b1.Message.Level == 2) (
   γ28 [.d (.sl [.int .i64] (List.map (encI .i64) b0.IDs)), .d (.int .i64 b1.ID)] [] [] fun r3 =>
   R14_12 (C14 Γ γ26 γ8 γ27 γ28 γ29) Λ2 J x9 (api_Packet.enc b1) (api_Inbox.enc b2) (List.map (encI .i64) r3)) (
  R14_12 (C14 Γ γ26 γ8 γ27 γ28 γ29) Λ2 J x9 (api_Packet.enc b1) (api_Inbox.enc b2) (List.map (encI .i64) r2)) := by kernel_rfl
theorem T14_7 (Γ : Fun) (γ26 : Gm (Int)) (γ8 : Gm (Bool)) (γ27 : Gm ((List Int))) (γ28 : Gm ((List Int))) (γ29 : Gm (api_Packet × Bool)) (Λ2 J : Lam) (x9 : Bool) (b0 : api_Inbox) (b1 : api_Packet) (b2 : api_Inbox) : labU SE (C14 Γ γ26 γ8 γ27 γ28 γ29) Λ2 J 14 0 [1, 1, 1, 1, 0, 0] (stoOf [(2, .ptr 1000000000 0), (3, .ptr 1000000001 0), (4, .ptr 1000000002 0), (9, .d (.bool x9))] [⟨24, (List.map AV.d (api_Inbox.enc b0))⟩, ⟨37, (List.map AV.d (api_Packet.enc b1))⟩, ⟨24, (List.map AV.d (api_Inbox.enc b2))⟩] [] [] []) =
  cond (b1.Message.Level == 2) (
   cond x9 (
    cond (decide ((List.length (List.map (encI .i64) b0.IDs) : Int) ≥ 32)) (
     (some (.ret [.agg [.d (.sl [.int .i64] (List.map (encI .i64) []))], .d (.bool false), .row 0, .d (.int .i64 6)] [] [⟨api_Packet.ks, 37, 416, []⟩]))) (
    R14_9 (C14 Γ γ26 γ8 γ27 γ28 γ29) Λ2 J x9 (api_Inbox.enc b0) (api_Packet.enc b1) (api_Inbox.enc b2))) (
   R14_9 (C14 Γ γ26 γ8 γ27 γ28 γ29) Λ2 J x9 (api_Inbox.enc b0) (api_Packet.enc b1) (api_Inbox.enc b2))) (
  R14_9 (C14 Γ γ26 γ8 γ27 γ28 γ29) Λ2 J x9 (api_Inbox.enc b0) (api_Packet.enc b1) (api_Inbox.enc b2)) := by kernel_rfl
abbrev X14 : CFun := C14 (callG SE good) (callT SE good 26 packet_Check_out) (callT SE good 8 inbound_Has_out) (callT SE good 27 slices_Clone___int_int__out) (callT SE good 28 inbound_insert_int__out) (callT SE good 29 packet_Answer_out)
theorem Cr14 : C14 (callG SE good) (callT SE good 26 packet_Check_out) (callT SE good 8 inbound_Has_out) (callT SE good 27 slices_Clone___int_int__out) (callT SE good 28 inbound_insert_int__out) (callT SE good 29 packet_Answer_out) = bindC (callG SE good) := by unfold C14; rw [updC_real (fun _ h => h), updC_real (fun _ h => h), updC_real (fun _ h => h), updC_real (fun _ h => h), updC_real (fun _ h => h)]
noncomputable abbrev Q14_12 (a0 : Bool) (a1 : (List D)) (a2 : (List D)) (a3 : (List (List D))) : Res := R14_12 X14 (lam2 SE (callG SE good) (SE.hl 14) (SE.hr 14)) (J0 SE X14) a0 a1 a2 a3
noncomputable abbrev Q14_9 (a0 : Bool) (a1 : (List D)) (a2 : (List D)) (a3 : (List D)) : Res := R14_9 X14 (lam2 SE (callG SE good) (SE.hl 14) (SE.hr 14)) (J0 SE X14) a0 a1 a2 a3
noncomputable abbrev Q14_7 (a0 : Bool) (a1 : (List D)) (a2 : (List D)) (a3 : (List D)) : Res := R14_7 X14 (lam2 SE (callG SE good) (SE.hl 14) (SE.hr 14)) (J0 SE X14) a0 a1 a2 a3
theorem inbound_Accept_j12_ok (x9 : Bool) (b0 : api_Packet) (b1 : api_Inbox) (w50200 : (List Int)) : Le (Option.map inbound_Accept_out (inbound_Accept_j12 x9 b0 b1 w50200)) (Q14_12 x9 (api_Packet.enc b0) (api_Inbox.enc b1) (List.map (encI .i64) w50200)) := by
  refine Le.trans ?_ (le_of_eq ((lab_realC Cr14).trans (T14_12 _ _ _ _ _ _ _ _  x9 b0 b1 w50200)).symm)
  unfold inbound_Accept_j12
  refine le_call (good := good) (fun y => ⟨y, rfl⟩) packet_Answer_inj (packet_Answer_ok b0) (fun r4 _ => ?_)
  refine le_cond rfl (fun _ => ?_) (fun _ => ?_)
  · skip
    exact le_ret (by first | rfl | (simp only [EN, inbound_Accept_out]; done) | (simp only [EN, inbound_Accept_out]; rfl))
  · skip
    exact le_ret (by first | rfl | (simp only [EN, inbound_Accept_out]; done) | (simp only [EN, inbound_Accept_out]; rfl))
theorem inbound_Accept_j9_ok (x9 : Bool) (b0 : api_Inbox) (b1 : api_Packet) (b2 : api_Inbox) : Le (Option.map inbound_Accept_out (inbound_Accept_j9 x9 b0 b1 b2)) (Q14_9 x9 (api_Inbox.enc b0) (api_Packet.enc b1) (api_Inbox.enc b2)) := by
  refine Le.trans ?_ (le_of_eq ((lab_realC Cr14).trans (T14_9 _ _ _ _ _ _ _ _  x9 b0 b1 b2)).symm)
  unfold inbound_Accept_j9
  refine le_call (good := good) (fun y => ⟨y, rfl⟩) slices_Clone___int_int__inj (slices_Clone___int_int__ok b0.IDs) (fun r2 _ => ?_)
  refine le_cond rfl (fun _ => ?_) (fun _ => ?_)
  · skip
    refine le_call (good := good) (fun y => ⟨y, rfl⟩) inbound_insert_int__inj (inbound_insert_int__ok b0.IDs b1.ID) (fun r3 _ => ?_)
    exact inbound_Accept_j12_ok x9 b1 b2 r3
  · skip
    exact inbound_Accept_j12_ok x9 b1 b2 r2
theorem inbound_Accept_j7_ok (x9 : Bool) (b0 : api_Inbox) (b1 : api_Packet) (b2 : api_Inbox) : Le (Option.map inbound_Accept_out (inbound_Accept_j7 x9 b0 b1 b2)) (Q14_7 x9 (api_Inbox.enc b0) (api_Packet.enc b1) (api_Inbox.enc b2)) := by
  refine Le.trans ?_ (le_of_eq ((lab_realC Cr14).trans (T14_7 _ _ _ _ _ _ _ _  x9 b0 b1 b2)).symm)
  unfold inbound_Accept_j7
  refine le_cond rfl (fun _ => ?_) (fun _ => ?_)
  · skip
    refine le_cond rfl (fun _ => ?_) (fun _ => ?_)
    · skip
      refine le_cond (by simp only [EN]) (fun _ => ?_) (fun _ => ?_)
      · skip
        exact le_ret (by first | rfl | (simp only [EN, inbound_Accept_out]; done) | (simp only [EN, inbound_Accept_out]; rfl))
      · skip
        exact inbound_Accept_j9_ok x9 b0 b1 b2
    · skip
      exact inbound_Accept_j9_ok x9 b0 b1 b2
  · skip
    exact inbound_Accept_j9_ok x9 b0 b1 b2
theorem inbound_Accept_ok (p0 : api_Inbox) (p1 : api_Packet) : Le (Option.map inbound_Accept_out (inbound_Accept p0 p1)) (callW SE 14 [api_Inbox.av p0, api_Packet.av p1] [] []) := by
  refine le_bodyC Cr14 rfl ?_
  refine Le.trans ?_ (le_of_eq (T14 _ _ _ _ _ _ _ _  p0 p1).symm)
  unfold inbound_Accept
  refine le_cond rfl (fun _ => ?_) (fun _ => ?_)
  · skip
    exact le_ret (by first | rfl | (simp only [EN, inbound_Accept_out]; done) | (simp only [EN, inbound_Accept_out]; rfl))
  · skip
    refine le_call (good := good) (fun y => ⟨y, rfl⟩) packet_Check_inj (packet_Check_ok p1) (fun r0 _ => ?_)
    refine le_cond rfl (fun _ => ?_) (fun _ => ?_)
    · skip
      exact le_ret (by first | rfl | (simp only [EN, inbound_Accept_out]; done) | (simp only [EN, inbound_Accept_out]; rfl))
    · skip
      refine le_cond rfl (fun _ => ?_) (fun _ => ?_)
      · skip
        first | (simp only [EN]; exact inbound_Accept_j7_ok true p0 p1 (api_Inbox.mk ([] : List Int))) | exact inbound_Accept_j7_ok true p0 p1 (api_Inbox.mk ([] : List Int))
      · skip
        refine le_call (good := good) (fun y => ⟨y, rfl⟩) inbound_Has_inj (inbound_Has_ok p0 p1.ID) (fun r1 _ => ?_)
        first | (simp only [EN]; exact inbound_Accept_j7_ok (!r1) p0 p1 (api_Inbox.mk ([] : List Int))) | exact inbound_Accept_j7_ok (!r1) p0 p1 (api_Inbox.mk ([] : List Int))
theorem slices_Delete___int_int__ok (p0 : (List Int)) (p1 : Int) (p2 : Int) : Le (Option.map slices_Delete___int_int__out (slices_Delete___int_int_ p0 p1 p2)) (callW SE 32 [.row 2000000000, .d (.int .i64 p1), .d (.int .i64 p2)] [] [⟨[.int .i64], 3, 8, (List.map (encI .i64) p0)⟩]) := le_delete (f := 32) (enc := (encI .i64)) rfl rfl p0 p1 p2
def C18 (Γ : Fun) (γ27 : Gm ((List Int))) (γ16 : Gm (Int × Bool)) (γ32 : Gm ((List Int))) : CFun := updC (updC (updC (bindC Γ) 27 slices_Clone___int_int__out γ27) 16 slices_BinarySearch___int_int__out γ16) 32 slices_Delete___int_int__out γ32
theorem T18 (Γ : Fun) (γ27 : Gm ((List Int))) (γ16 : Gm (Int × Bool)) (γ32 : Gm ((List Int))) (Λ2 J : Lam) (p0 : (List Int)) (p1 : Int) : bodyC SE (C18 Γ γ27 γ16 γ32) Λ2 J 18 [.d (.sl [.int .i64] (List.map (encI .i64) p0)), .d (.int .i64 p1)] [] [] =
  γ27 [.d (.sl [.int .i64] (List.map (encI .i64) p0))] [] [] fun r0 =>
  γ16 [.d (.sl [.int .i64] (List.map (encI .i64) r0)), .d (.int .i64 p1)] [] [] fun r1 =>
  cond r1.2 (
   γ32 [.row 2000000000, .d (.int .i64 r1.1), .d (.int .i64 (IntKind.wrap .i64 (r1.1 + 1)))] [] [⟨[.int .i64], 3, 8, (List.map (encI .i64) r0)⟩] fun r2 =>
   (some (.ret [.row 0] [] [⟨[.int .i64], 3, 8, (List.map (encI .i64) r2)⟩]))) (
  (some (.ret [.row 0] [] [⟨[.int .i64], 3, 8, (List.map (encI .i64) r0)⟩]))) := by kernel_rfl
abbrev X18 : CFun := C18 (callG SE good) (callT SE good 27 slices_Clone___int_int__out) (callT SE good 16 slices_BinarySearch___int_int__out) (callT SE good 32 slices_Delete___int_int__out)
theorem Cr18 : C18 (callG SE good) (callT SE good 27 slices_Clone___int_int__out) (callT SE good 16 slices_BinarySearch___int_int__out) (callT SE good 32 slices_Delete___int_int__out) = bindC (callG SE good) := by unfold C18; rw [updC_real (fun _ h => h), updC_real (fun _ h => h), updC_real (fun _ h => h)]
theorem inbound_without_int__ok (p0 : (List Int)) (p1 : Int) : Le (Option.map inbound_without_int__out (inbound_without_int_ p0 p1)) (callW SE 18 [.d (.sl [.int .i64] (List.map (encI .i64) p0)), .d (.int .i64 p1)] [] []) := by
  refine le_bodyC Cr18 rfl ?_
  refine Le.trans ?_ (le_of_eq (T18 _ _ _ _ _ _  p0 p1).symm)
  unfold inbound_without_int_
  refine le_call (good := good) (fun y => ⟨y, rfl⟩) slices_Clone___int_int__inj (slices_Clone___int_int__ok p0) (fun r0 _ => ?_)
  refine le_call (good := good) (fun y => ⟨y, rfl⟩) slices_BinarySearch___int_int__inj (slices_BinarySearch___int_int__ok r0 p1) (fun r1 _ => ?_)
  refine le_cond rfl (fun _ => ?_) (fun _ => ?_)
  · skip
    refine le_call (good := good) (fun y => ⟨y, rfl⟩) slices_Delete___int_int__inj (slices_Delete___int_int__ok r0 r1.1 (IntKind.wrap .i64 (r1.1 + 1))) (fun r2 _ => ?_)
    exact le_ret (by first | rfl | (simp only [EN, inbound_without_int__out]; done) | (simp only [EN, inbound_without_int__out]; rfl))
  · skip
    exact le_ret (by first | rfl | (simp only [EN, inbound_without_int__out]; done) | (simp only [EN, inbound_without_int__out]; rfl))
def C10 (Γ : Fun) (γ18 : Gm ((List Int))) : CFun := updC (bindC Γ) 18 inbound_without_int__out γ18
def R10_5 (C : CFun) (Λ2 J : Lam) (a0 : (List D)) (a1 : (List D)) (a2 : (List D)) (a3 : (List D)) : Res := lab SE C Λ2 J 10 0 [1, 1, 1, 0] (stoOf [(2, .ptr 1000000000 0), (3, .ptr 1000000001 0), (4, .ptr 1000000002 0), (5, .ptr 1000000003 0)] [⟨24, (List.map AV.d a0)⟩, ⟨37, (List.map AV.d a1)⟩, ⟨24, (List.map AV.d a2)⟩, ⟨37, (List.map AV.d a3)⟩] [] [] [])
theorem T10 (Γ : Fun) (γ18 : Gm ((List Int))) (Λ2 J : Lam) (p0 : api_Inbox) (p1 : api_Packet) : bodyC SE (C10 Γ γ18) Λ2 J 10 [api_Inbox.av p0, api_Packet.av p1] [] [] =
  cond (p1.Kind != 6) (
   (some (.ret [.agg [.d (.sl [.int .i64] (List.map (encI .i64) []))], .agg [.d (.int .i64 0), .d (.int .i64 0), .d (.bool false), .d (.str ([] : Str)), .d (.str ([] : Str)), .d (.int .i64 0), .d (.bool false), .d (.int .i64 0), .d (.int .i64 0), .d (.str ([] : Str)), .d (.int .i64 0), .d (.sl api_Prop.ks (List.map api_Prop.enc [])), .d (.str ([] : Str)), .d (.str ([] : Str)), .d (.bool false), .d (.int .i64 0), .d (.int .i64 0), .d (.int .i64 0), .d (.bool false), .d (.int .i64 0), .d (.str ([] : Str)), .d (.str ([] : Str)), .d (.int .i64 0), .d (.bool false), .d (.int .i64 0), .d (.int .i64 0), .d (.str ([] : Str)), .d (.int .i64 0), .d (.sl api_Prop.ks (List.map api_Prop.enc [])), .d (.bool false), .d (.int .i64 0), .d (.sl api_Sub.ks (List.map api_Sub.enc [])), .d (.sl [.str] (List.map encS [])), .d (.sl [.int .i64] (List.map (encI .i64) []))], .d (.int .i64 10)] [] []))) (
  cond (decide (p1.ID < 1)) (
   (some (.ret [.agg [.d (.sl [.int .i64] (List.map (encI .i64) []))], .agg [.d (.int .i64 0), .d (.int .i64 0), .d (.bool false), .d (.str ([] : Str)), .d (.str ([] : Str)), .d (.int .i64 0), .d (.bool false), .d (.int .i64 0), .d (.int .i64 0), .d (.str ([] : Str)), .d (.int .i64 0), .d (.sl api_Prop.ks (List.map api_Prop.enc [])), .d (.str ([] : Str)), .d (.str ([] : Str)), .d (.bool false), .d (.int .i64 0), .d (.int .i64 0), .d (.int .i64 0), .d (.bool false), .d (.int .i64 0), .d (.str ([] : Str)), .d (.str ([] : Str)), .d (.int .i64 0), .d (.bool false), .d (.int .i64 0), .d (.int .i64 0), .d (.str ([] : Str)), .d (.int .i64 0), .d (.sl api_Prop.ks (List.map api_Prop.enc [])), .d (.bool false), .d (.int .i64 0), .d (.sl api_Sub.ks (List.map api_Sub.enc [])), .d (.sl [.str] (List.map encS [])), .d (.sl [.int .i64] (List.map (encI .i64) []))], .d (.int .i64 15)] [] []))) (
  cond (decide (p1.ID > 65535)) (
   (some (.ret [.agg [.d (.sl [.int .i64] (List.map (encI .i64) []))], .agg [.d (.int .i64 0), .d (.int .i64 0), .d (.bool false), .d (.str ([] : Str)), .d (.str ([] : Str)), .d (.int .i64 0), .d (.bool false), .d (.int .i64 0), .d (.int .i64 0), .d (.str ([] : Str)), .d (.int .i64 0), .d (.sl api_Prop.ks (List.map api_Prop.enc [])), .d (.str ([] : Str)), .d (.str ([] : Str)), .d (.bool false), .d (.int .i64 0), .d (.int .i64 0), .d (.int .i64 0), .d (.bool false), .d (.int .i64 0), .d (.str ([] : Str)), .d (.str ([] : Str)), .d (.int .i64 0), .d (.bool false), .d (.int .i64 0), .d (.int .i64 0), .d (.str ([] : Str)), .d (.int .i64 0), .d (.sl api_Prop.ks (List.map api_Prop.enc [])), .d (.bool false), .d (.int .i64 0), .d (.sl api_Sub.ks (List.map api_Sub.enc [])), .d (.sl [.str] (List.map encS [])), .d (.sl [.int .i64] (List.map (encI .i64) []))], .d (.int .i64 15)] [] []))) (
  R10_5 (C10 Γ γ18) Λ2 J (api_Inbox.enc p0) (api_Packet.enc p1) [D.sl [.int .i64] (List.map (encI .i64) [])] [D.int .i64 0, D.int .i64 0, D.bool false, D.str ([] : Str), D.str ([] : Str), D.int .i64 0, D.bool false, D.int .i64 0, D.int .i64 0, D.str ([] : Str), D.int .i64 0, D.sl api_Prop.ks (List.map api_Prop.enc []), D.str ([] : Str), D.str ([] : Str), D.bool false, D.int .i64 0, D.int .i64 0, D.int .i64 0, D.bool false, D.int .i64 0, D.str ([] : Str), D.str ([] : Str), D.int .i64 0, D.bool false, D.int .i64 0, D.int .i64 0, D.str ([] : Str), D.int .i64 0, D.sl api_Prop.ks (List.map api_Prop.enc []), D.bool false, D.int .i64 0, D.sl api_Sub.ks (List.map api_Sub.enc []), D.sl [.str] (List.map encS []), D.sl [.int .i64] (List.map (encI .i64) [])]))) := by kernel_rfl
theorem T10_5 (Γ : Fun) (γ18 : Gm ((List Int))) (Λ2 J : Lam) (b0 : api_Inbox) (b1 : api_Packet) (b2 : api_Inbox) (b3 : api_Packet) : labU SE (C10 Γ γ18) Λ2 J 10 0 [1, 1, 1, 0] (stoOf [(2, .ptr 1000000000 0), (3, .ptr 1000000001 0), (4, .ptr 1000000002 0), (5, .ptr 1000000003 0)] [⟨24, (List.map AV.d (api_Inbox.enc b0))⟩, ⟨37, (List.map AV.d (api_Packet.enc b1))⟩, ⟨24, (List.map AV.d (api_Inbox.enc b2))⟩, ⟨37, (List.map AV.d (api_Packet.enc b3))⟩] [] [] []) =
  γ18 [.d (.sl [.int .i64] (List.map (encI .i64) b0.IDs)), .d (.int .i64 b1.ID)] [] [] fun r0 =>
  (some (.ret [api_Inbox.av (api_Inbox.mk r0), .agg [.d (.int .i64 7), .d (.int .i64 b1.ID), .d (.bool false), .d (.str ([] : Str)), .d (.str ([] : Str)), .d (.int .i64 0), .d (.bool false), .d (.int .i64 0), .d (.int .i64 0), .d (.str ([] : Str)), .d (.int .i64 0), .d (.sl api_Prop.ks (List.map api_Prop.enc [])), .d (.str ([] : Str)), .d (.str ([] : Str)), .d (.bool false), .d (.int .i64 0), .d (.int .i64 0), .d (.int .i64 0), .d (.bool false), .d (.int .i64 0), .d (.str ([] : Str)), .d (.str ([] : Str)), .d (.int .i64 0), .d (.bool false), .d (.int .i64 0), .d (.int .i64 0), .d (.str ([] : Str)), .d (.int .i64 0), .d (.sl api_Prop.ks (List.map api_Prop.enc [])), .d (.bool false), .d (.int .i64 0), .d (.sl api_Sub.ks (List.map api_Sub.enc [])), .d (.sl [.str] (List.map encS [])), .d (.sl [.int .i64] (List.map (encI .i64) []))], .d (.int .i64 0)] [] [])) := by kernel_rfl
abbrev X10 : CFun := C10 (callG SE good) (callT SE good 18 inbound_without_int__out)
theorem Cr10 : C10 (callG SE good) (callT SE good 18 inbound_without_int__out) = bindC (callG SE good) := by unfold C10; rw [updC_real (fun _ h => h)]
noncomputable abbrev Q10_5 (a0 : (List D)) (a1 : (List D)) (a2 : (List D)) (a3 : (List D)) : Res := R10_5 X10 (lam2 SE (callG SE good) (SE.hl 10) (SE.hr 10)) (J0 SE X10) a0 a1 a2 a3
theorem inbound_Release_j5_ok (b0 : api_Inbox) (b1 : api_Packet) (b2 : api_Inbox) (b3 : api_Packet) : Le (Option.map inbound_Release_out (inbound_Release_j5 b0 b1 b2 b3)) (Q10_5 (api_Inbox.enc b0) (api_Packet.enc b1) (api_Inbox.enc b2) (api_Packet.enc b3)) := by
  refine Le.trans ?_ (le_of_eq ((lab_realC Cr10).trans (T10_5 _ _ _ _  b0 b1 b2 b3)).symm)
  unfold inbound_Release_j5
  refine le_call (good := good) (fun y => ⟨y, rfl⟩) inbound_without_int__inj (inbound_without_int__ok b0.IDs b1.ID) (fun r0 _ => ?_)
  exact le_ret (by first | rfl | (simp only [EN, inbound_Release_out]; done) | (simp only [EN, inbound_Release_out]; rfl))
theorem inbound_Release_ok (p0 : api_Inbox) (p1 : api_Packet) : Le (Option.map inbound_Release_out (inbound_Release p0 p1)) (callW SE 10 [api_Inbox.av p0, api_Packet.av p1] [] []) := by
  refine le_bodyC Cr10 rfl ?_
  refine Le.trans ?_ (le_of_eq (T10 _ _ _ _  p0 p1).symm)
  unfold inbound_Release
  refine le_cond rfl (fun _ => ?_) (fun _ => ?_)
  · skip
    exact le_ret (by first | rfl | (simp only [EN, inbound_Release_out]; done) | (simp only [EN, inbound_Release_out]; rfl))
  · skip
    refine le_cond rfl (fun _ => ?_) (fun _ => ?_)
    · skip
      exact le_ret (by first | rfl | (simp only [EN, inbound_Release_out]; done) | (simp only [EN, inbound_Release_out]; rfl))
    · skip
      refine le_cond rfl (fun _ => ?_) (fun _ => ?_)
      · skip
        exact le_ret (by first | rfl | (simp only [EN, inbound_Release_out]; done) | (simp only [EN, inbound_Release_out]; rfl))
      · skip
        first | (simp only [EN]; exact inbound_Release_j5_ok p0 p1 (api_Inbox.mk ([] : List Int)) ((api_Packet.mk 0 0 false (api_Message.mk ([] : Str) ([] : Str) 0 false 0 0 ([] : Str) 0 ([] : List api_Prop)) ([] : Str) ([] : Str) false 0 0 0 (api_Will.mk false 0 (api_Message.mk ([] : Str) ([] : Str) 0 false 0 0 ([] : Str) 0 ([] : List api_Prop))) false 0 ([] : List api_Sub) ([] : List Str) ([] : List Int)))) | exact inbound_Release_j5_ok p0 p1 (api_Inbox.mk ([] : List Int)) ((api_Packet.mk 0 0 false (api_Message.mk ([] : Str) ([] : Str) 0 false 0 0 ([] : Str) 0 ([] : List api_Prop)) ([] : Str) ([] : Str) false 0 0 0 (api_Will.mk false 0 (api_Message.mk ([] : Str) ([] : Str) 0 false 0 0 ([] : Str) 0 ([] : List api_Prop))) false 0 ([] : List api_Sub) ([] : List Str) ([] : List Int)))
def C6 (Γ : Fun) (γ14 : Gm (api_Inbox × Bool × (List api_Packet) × Int)) (γ10 : Gm (api_Inbox × api_Packet × Int)) (γ8 : Gm (Bool)) (γ5 : Gm (Int)) : CFun := updC (updC (updC (updC (bindC Γ) 14 inbound_Accept_out γ14) 10 inbound_Release_out γ10) 8 inbound_Has_out γ8) 5 inbound_Check_out γ5
theorem T6 (Γ : Fun) (γ14 : Gm (api_Inbox × Bool × (List api_Packet) × Int)) (γ10 : Gm (api_Inbox × api_Packet × Int)) (γ8 : Gm (Bool)) (γ5 : Gm (Int)) (Λ2 J : Lam) : bodyC SE (C6 Γ γ14 γ10 γ8 γ5) Λ2 J 6 [] [] [] =
  γ14 [.agg [.d (.sl [.int .i64] (List.map (encI .i64) []))], .agg [.d (.int .i64 3), .d (.int .i64 7), .d (.bool false), .d (.str ([116] : Str)), .d (.str ([] : Str)), .d (.int .i64 2), .d (.bool false), .d (.int .i64 0), .d (.int .i64 0), .d (.str ([] : Str)), .d (.int .i64 0), .d (.sl api_Prop.ks (List.map api_Prop.enc [])), .d (.str ([] : Str)), .d (.str ([] : Str)), .d (.bool false), .d (.int .i64 0), .d (.int .i64 0), .d (.int .i64 0), .d (.bool false), .d (.int .i64 0), .d (.str ([] : Str)), .d (.str ([] : Str)), .d (.int .i64 0), .d (.bool false), .d (.int .i64 0), .d (.int .i64 0), .d (.str ([] : Str)), .d (.int .i64 0), .d (.sl api_Prop.ks (List.map api_Prop.enc [])), .d (.bool false), .d (.int .i64 0), .d (.sl api_Sub.ks (List.map api_Sub.enc [])), .d (.sl [.str] (List.map encS [])), .d (.sl [.int .i64] (List.map (encI .i64) []))]] [] [] fun r0 =>
  γ14 [api_Inbox.av r0.1, .agg [.d (.int .i64 3), .d (.int .i64 7), .d (.bool false), .d (.str ([116] : Str)), .d (.str ([] : Str)), .d (.int .i64 2), .d (.bool false), .d (.int .i64 0), .d (.int .i64 0), .d (.str ([] : Str)), .d (.int .i64 0), .d (.sl api_Prop.ks (List.map api_Prop.enc [])), .d (.str ([] : Str)), .d (.str ([] : Str)), .d (.bool false), .d (.int .i64 0), .d (.int .i64 0), .d (.int .i64 0), .d (.bool false), .d (.int .i64 0), .d (.str ([] : Str)), .d (.str ([] : Str)), .d (.int .i64 0), .d (.bool false), .d (.int .i64 0), .d (.int .i64 0), .d (.str ([] : Str)), .d (.int .i64 0), .d (.sl api_Prop.ks (List.map api_Prop.enc [])), .d (.bool false), .d (.int .i64 0), .d (.sl api_Sub.ks (List.map api_Sub.enc [])), .d (.sl [.str] (List.map encS [])), .d (.sl [.int .i64] (List.map (encI .i64) []))]] [] [] fun r1 =>
  γ10 [api_Inbox.av r0.1, .agg [.d (.int .i64 6), .d (.int .i64 7), .d (.bool false), .d (.str ([] : Str)), .d (.str ([] : Str)), .d (.int .i64 0), .d (.bool false), .d (.int .i64 0), .d (.int .i64 0), .d (.str ([] : Str)), .d (.int .i64 0), .d (.sl api_Prop.ks (List.map api_Prop.enc [])), .d (.str ([] : Str)), .d (.str ([] : Str)), .d (.bool false), .d (.int .i64 0), .d (.int .i64 0), .d (.int .i64 0), .d (.bool false), .d (.int .i64 0), .d (.str ([] : Str)), .d (.str ([] : Str)), .d (.int .i64 0), .d (.bool false), .d (.int .i64 0), .d (.int .i64 0), .d (.str ([] : Str)), .d (.int .i64 0), .d (.sl api_Prop.ks (List.map api_Prop.enc [])), .d (.bool false), .d (.int .i64 0), .d (.sl api_Sub.ks (List.map api_Sub.enc [])), .d (.sl [.str] (List.map encS [])), .d (.sl [.int .i64] (List.map (encI .i64) []))]] [] [] fun r2 =>
  cond (r0.2.2.2 == 0) (
   cond (r1.2.2.2 == 0) (
    cond (r2.2.2 == 0) (
     cond r0.2.1 (
      cond (!r1.2.1) (
       cond ((List.length (List.map api_Packet.enc r0.2.2.1) : Int) == 1) (
        cond (decide (0 ≤ 0) && decide (0 < (List.length (List.map api_Packet.enc r0.2.2.1) : Int))) (
         cond ((dInt (cellAt (elemAt (List.map api_Packet.enc r0.2.2.1) (Int.toNat 0)) 0)) == 5) (
          cond (decide (0 ≤ 0) && decide (0 < (List.length (List.map api_Packet.enc r0.2.2.1) : Int))) (
           cond ((dInt (cellAt (elemAt (List.map api_Packet.enc r0.2.2.1) (Int.toNat 0)) 1)) == 7) (
            cond ((List.length (List.map api_Packet.enc r1.2.2.1) : Int) == 1) (
             γ8 [api_Inbox.av r0.1, .d (.int .i64 7)] [] [] fun r3 =>
             cond r3 (
              γ8 [api_Inbox.av r2.1, .d (.int .i64 7)] [] [] fun r4 =>
              cond (!r4) (
               cond (r2.2.1.Kind == 7) (
                cond (r2.2.1.ID == 7) (
                 γ5 [api_Inbox.av (api_Inbox.mk [2, 1])] [] [] fun r5 =>
                 (some (.ret [.d (.bool (r5 == 15))] [] []))) (
                (some (.ret [.d (.bool false)] [] [])))) (
               (some (.ret [.d (.bool false)] [] [])))) (
              (some (.ret [.d (.bool false)] [] [])))) (
             (some (.ret [.d (.bool false)] [] [])))) (
            (some (.ret [.d (.bool false)] [] [])))) (
           (some (.ret [.d (.bool false)] [] [])))) none) (
         (some (.ret [.d (.bool false)] [] [])))) none) (
       (some (.ret [.d (.bool false)] [] [])))) (
      (some (.ret [.d (.bool false)] [] [])))) (
     (some (.ret [.d (.bool false)] [] [])))) (
    (some (.ret [.d (.bool false)] [] [])))) (
   (some (.ret [.d (.bool false)] [] [])))) (
  (some (.ret [.d (.bool false)] [] []))) := by kernel_rfl
abbrev X6 : CFun := C6 (callG SE good) (callT SE good 14 inbound_Accept_out) (callT SE good 10 inbound_Release_out) (callT SE good 8 inbound_Has_out) (callT SE good 5 inbound_Check_out)
theorem Cr6 : C6 (callG SE good) (callT SE good 14 inbound_Accept_out) (callT SE good 10 inbound_Release_out) (callT SE good 8 inbound_Has_out) (callT SE good 5 inbound_Check_out) = bindC (callG SE good) := by unfold C6; rw [updC_real (fun _ h => h), updC_real (fun _ h => h), updC_real (fun _ h => h), updC_real (fun _ h => h)]
theorem brokerlaw15_awake_ok : Le (Option.map brokerlaw15_awake_out (brokerlaw15_awake)) (callW SE 6 [] [] []) := by
  refine le_bodyC Cr6 rfl ?_
  refine Le.trans ?_ (le_of_eq (T6 _ _ _ _ _ _ _ ).symm)
  unfold brokerlaw15_awake
  refine le_call (good := good) (fun y => ⟨y, rfl⟩) inbound_Accept_inj (by first | (simp only [EN]; exact inbound_Accept_ok (api_Inbox.mk ([] : List Int)) ((api_Packet.mk 3 7 false (api_Message.mk ([116] : Str) ([] : Str) 2 false 0 0 ([] : Str) 0 ([] : List api_Prop)) ([] : Str) ([] : Str) false 0 0 0 (api_Will.mk false 0 (api_Message.mk ([] : Str) ([] : Str) 0 false 0 0 ([] : Str) 0 ([] : List api_Prop))) false 0 ([] : List api_Sub) ([] : List Str) ([] : List Int)))) | exact inbound_Accept_ok (api_Inbox.mk ([] : List Int)) ((api_Packet.mk 3 7 false (api_Message.mk ([116] : Str) ([] : Str) 2 false 0 0 ([] : Str) 0 ([] : List api_Prop)) ([] : Str) ([] : Str) false 0 0 0 (api_Will.mk false 0 (api_Message.mk ([] : Str) ([] : Str) 0 false 0 0 ([] : Str) 0 ([] : List api_Prop))) false 0 ([] : List api_Sub) ([] : List Str) ([] : List Int)))) (fun r0 _ => ?_)
  refine le_call (good := good) (fun y => ⟨y, rfl⟩) inbound_Accept_inj (by first | (simp only [EN]; exact inbound_Accept_ok r0.1 ((api_Packet.mk 3 7 false (api_Message.mk ([116] : Str) ([] : Str) 2 false 0 0 ([] : Str) 0 ([] : List api_Prop)) ([] : Str) ([] : Str) false 0 0 0 (api_Will.mk false 0 (api_Message.mk ([] : Str) ([] : Str) 0 false 0 0 ([] : Str) 0 ([] : List api_Prop))) false 0 ([] : List api_Sub) ([] : List Str) ([] : List Int)))) | exact inbound_Accept_ok r0.1 ((api_Packet.mk 3 7 false (api_Message.mk ([116] : Str) ([] : Str) 2 false 0 0 ([] : Str) 0 ([] : List api_Prop)) ([] : Str) ([] : Str) false 0 0 0 (api_Will.mk false 0 (api_Message.mk ([] : Str) ([] : Str) 0 false 0 0 ([] : Str) 0 ([] : List api_Prop))) false 0 ([] : List api_Sub) ([] : List Str) ([] : List Int)))) (fun r1 _ => ?_)
  refine le_call (good := good) (fun y => ⟨y, rfl⟩) inbound_Release_inj (by first | (simp only [EN]; exact inbound_Release_ok r0.1 ((api_Packet.mk 6 7 false (api_Message.mk ([] : Str) ([] : Str) 0 false 0 0 ([] : Str) 0 ([] : List api_Prop)) ([] : Str) ([] : Str) false 0 0 0 (api_Will.mk false 0 (api_Message.mk ([] : Str) ([] : Str) 0 false 0 0 ([] : Str) 0 ([] : List api_Prop))) false 0 ([] : List api_Sub) ([] : List Str) ([] : List Int)))) | exact inbound_Release_ok r0.1 ((api_Packet.mk 6 7 false (api_Message.mk ([] : Str) ([] : Str) 0 false 0 0 ([] : Str) 0 ([] : List api_Prop)) ([] : Str) ([] : Str) false 0 0 0 (api_Will.mk false 0 (api_Message.mk ([] : Str) ([] : Str) 0 false 0 0 ([] : Str) 0 ([] : List api_Prop))) false 0 ([] : List api_Sub) ([] : List Str) ([] : List Int)))) (fun r2 _ => ?_)
  refine le_cond rfl (fun _ => ?_) (fun _ => ?_)
  · skip
    refine le_cond rfl (fun _ => ?_) (fun _ => ?_)
    · skip
      refine le_cond rfl (fun _ => ?_) (fun _ => ?_)
      · skip
        refine le_cond rfl (fun _ => ?_) (fun _ => ?_)
        · skip
          refine le_cond rfl (fun _ => ?_) (fun _ => ?_)
          · skip
            refine le_cond (by simp only [EN]) (fun _ => ?_) (fun _ => ?_)
            · skip
              refine le_cond (by simp only [EN]) (fun _ => ?_) (fun _ => le_none)
              refine le_cond (by simp only [EN]) (fun _ => ?_) (fun _ => ?_)
              · skip
                refine le_cond (by simp only [EN]) (fun _ => ?_) (fun _ => le_none)
                refine le_cond (by simp only [EN]) (fun _ => ?_) (fun _ => ?_)
                · skip
                  refine le_cond (by simp only [EN]) (fun _ => ?_) (fun _ => ?_)
                  · skip
                    refine le_call (good := good) (fun y => ⟨y, rfl⟩) inbound_Has_inj (inbound_Has_ok r0.1 7) (fun r3 _ => ?_)
                    refine le_cond rfl (fun _ => ?_) (fun _ => ?_)
                    · skip
                      refine le_call (good := good) (fun y => ⟨y, rfl⟩) inbound_Has_inj (inbound_Has_ok r2.1 7) (fun r4 _ => ?_)
                      refine le_cond rfl (fun _ => ?_) (fun _ => ?_)
                      · skip
                        refine le_cond rfl (fun _ => ?_) (fun _ => ?_)
                        · skip
                          refine le_cond rfl (fun _ => ?_) (fun _ => ?_)
                          · skip
                            refine le_call (good := good) (fun y => ⟨y, rfl⟩) inbound_Check_inj (inbound_Check_ok (api_Inbox.mk [2, 1])) (fun r5 _ => ?_)
                            exact le_ret (by first | rfl | (simp only [EN, brokerlaw15_awake_out]; done) | (simp only [EN, brokerlaw15_awake_out]; rfl))
                          · skip
                            exact le_ret (by first | rfl | (simp only [EN, brokerlaw15_awake_out]; done) | (simp only [EN, brokerlaw15_awake_out]; rfl))
                        · skip
                          exact le_ret (by first | rfl | (simp only [EN, brokerlaw15_awake_out]; done) | (simp only [EN, brokerlaw15_awake_out]; rfl))
                      · skip
                        exact le_ret (by first | rfl | (simp only [EN, brokerlaw15_awake_out]; done) | (simp only [EN, brokerlaw15_awake_out]; rfl))
                    · skip
                      exact le_ret (by first | rfl | (simp only [EN, brokerlaw15_awake_out]; done) | (simp only [EN, brokerlaw15_awake_out]; rfl))
                  · skip
                    exact le_ret (by first | rfl | (simp only [EN, brokerlaw15_awake_out]; done) | (simp only [EN, brokerlaw15_awake_out]; rfl))
                · skip
                  exact le_ret (by first | rfl | (simp only [EN, brokerlaw15_awake_out]; done) | (simp only [EN, brokerlaw15_awake_out]; rfl))
              · skip
                exact le_ret (by first | rfl | (simp only [EN, brokerlaw15_awake_out]; done) | (simp only [EN, brokerlaw15_awake_out]; rfl))
            · skip
              exact le_ret (by first | rfl | (simp only [EN, brokerlaw15_awake_out]; done) | (simp only [EN, brokerlaw15_awake_out]; rfl))
          · skip
            exact le_ret (by first | rfl | (simp only [EN, brokerlaw15_awake_out]; done) | (simp only [EN, brokerlaw15_awake_out]; rfl))
        · skip
          exact le_ret (by first | rfl | (simp only [EN, brokerlaw15_awake_out]; done) | (simp only [EN, brokerlaw15_awake_out]; rfl))
      · skip
        exact le_ret (by first | rfl | (simp only [EN, brokerlaw15_awake_out]; done) | (simp only [EN, brokerlaw15_awake_out]; rfl))
    · skip
      exact le_ret (by first | rfl | (simp only [EN, brokerlaw15_awake_out]; done) | (simp only [EN, brokerlaw15_awake_out]; rfl))
  · skip
    exact le_ret (by first | rfl | (simp only [EN, brokerlaw15_awake_out]; done) | (simp only [EN, brokerlaw15_awake_out]; rfl))
def C15 (Γ : Fun)  : CFun := bindC Γ
def R15_4 (C : CFun) (Λ2 J : Lam) (a0 : Int) (a1 : (List D)) : Res := lab SE C Λ2 J 15 0 [1, 1, 0, 1, 0] (stoOf [(1, .ptr 1000000000 0), (3, .d (.int .i64 a0))] [⟨48, (List.map AV.d a1)⟩] [] [] [])
theorem T15 (Γ : Fun)  (Λ2 J : Lam) (p0 : api_Pool) : bodyC SE (C15 Γ) Λ2 J 15 [api_Pool.av p0] [] [] =
  cond (decide ((List.length (List.map (encI .i64) p0.Used) : Int) > 32)) (
   (some (.ret [.d (.int .i64 5)] [] []))) (
  R15_4 (C15 Γ) Λ2 J 0 (api_Pool.enc p0)) := by kernel_rfl
theorem T15_4 (Γ : Fun)  (Λ2 J : Lam) (x3 : Int) (b0 : api_Pool) : labU SE (C15 Γ) Λ2 J 15 0 [1, 1, 0, 1, 0] (stoOf [(1, .ptr 1000000000 0), (3, .d (.int .i64 x3))] [⟨48, (List.map AV.d (api_Pool.enc b0))⟩] [] [] []) =
  cond (decide (x3 < (List.length (List.map (encI .i64) b0.Used) : Int))) (
   cond (decide (0 ≤ x3) && decide (x3 < (List.length (List.map (encI .i64) b0.Used) : Int))) (
    cond (decide ((dInt (cellAt (elemAt (List.map (encI .i64) b0.Used) (Int.toNat x3)) 0)) < 1)) (
     (some (.ret [.d (.int .i64 15)] [] []))) (
    cond (decide (0 ≤ x3) && decide (x3 < (List.length (List.map (encI .i64) b0.Used) : Int))) (
     cond (decide ((dInt (cellAt (elemAt (List.map (encI .i64) b0.Used) (Int.toNat x3)) 0)) > 65535)) (
      (some (.ret [.d (.int .i64 15)] [] []))) (
     cond (decide (x3 > 0)) (
      cond (decide (0 ≤ x3) && decide (x3 < (List.length (List.map (encI .i64) b0.Used) : Int))) (
       cond (decide (0 ≤ (IntKind.wrap .i64 (x3 - 1))) && decide ((IntKind.wrap .i64 (x3 - 1)) < (List.length (List.map (encI .i64) b0.Used) : Int))) (
        cond (decide ((dInt (cellAt (elemAt (List.map (encI .i64) b0.Used) (Int.toNat x3)) 0)) ≤ (dInt (cellAt (elemAt (List.map (encI .i64) b0.Used) (Int.toNat (IntKind.wrap .i64 (x3 - 1)))) 0)))) (
         (some (.ret [.d (.int .i64 15)] [] []))) (
        R15_4 (C15 Γ) Λ2 J (IntKind.wrap .i64 (x3 + 1)) (api_Pool.enc b0))) none) none) (
     R15_4 (C15 Γ) Λ2 J (IntKind.wrap .i64 (x3 + 1)) (api_Pool.enc b0)))) none)) none) (
  cond (decide (b0.Last < 0)) (
   (some (.ret [.d (.int .i64 1)] [] []))) (
  cond (decide (b0.Last > 65535)) (
   (some (.ret [.d (.int .i64 1)] [] []))) (
  (some (.ret [.d (.int .i64 0)] [] []))))) := by kernel_rfl
abbrev X15 : CFun := C15 (callG SE good)
theorem Cr15 : C15 (callG SE good) = bindC (callG SE good) := by unfold C15; rfl
noncomputable abbrev Q15_4 (a0 : Int) (a1 : (List D)) : Res := R15_4 X15 (lam2 SE (callG SE good) (SE.hl 15) (SE.hr 15)) (J0 SE X15) a0 a1
theorem brokerref13_Check_l4_ok : ∀ (fu : Nat) (x3 : Int) (b0 : api_Pool), Le (Option.map brokerref13_Check_out (brokerref13_Check_l4 fu x3 b0)) (Q15_4 x3 (api_Pool.enc b0)) := by
  intro fu
  induction fu with
  | zero => intros; exact le_none
  | succ fu ih =>
    intro x3 b0
    refine Le.trans ?_ (le_of_eq ((lab_realC Cr15).trans (T15_4 _ _ _  x3 b0)).symm)
    unfold brokerref13_Check_l4
    refine le_cond (by simp only [EN]) (fun _ => ?_) (fun _ => ?_)
    · skip
      refine le_cond (by simp only [EN]) (fun _ => ?_) (fun _ => le_none)
      refine le_cond (by simp only [EN]) (fun _ => ?_) (fun _ => ?_)
      · skip
        exact le_ret (by first | rfl | (simp only [EN, brokerref13_Check_out]; done) | (simp only [EN, brokerref13_Check_out]; rfl))
      · skip
        refine le_cond (by simp only [EN]) (fun _ => ?_) (fun _ => le_none)
        refine le_cond (by simp only [EN]) (fun _ => ?_) (fun _ => ?_)
        · skip
          exact le_ret (by first | rfl | (simp only [EN, brokerref13_Check_out]; done) | (simp only [EN, brokerref13_Check_out]; rfl))
        · skip
          refine le_cond rfl (fun _ => ?_) (fun _ => ?_)
          · skip
            refine le_cond (by simp only [EN]) (fun _ => ?_) (fun _ => le_none)
            refine le_cond (by simp only [EN]) (fun _ => ?_) (fun _ => le_none)
            refine le_cond (by simp only [EN]) (fun _ => ?_) (fun _ => ?_)
            · skip
              exact le_ret (by first | rfl | (simp only [EN, brokerref13_Check_out]; done) | (simp only [EN, brokerref13_Check_out]; rfl))
            · skip
              exact ih (IntKind.wrap .i64 (x3 + 1)) b0
          · skip
            exact ih (IntKind.wrap .i64 (x3 + 1)) b0
    · skip
      refine le_cond rfl (fun _ => ?_) (fun _ => ?_)
      · skip
        exact le_ret (by first | rfl | (simp only [EN, brokerref13_Check_out]; done) | (simp only [EN, brokerref13_Check_out]; rfl))
      · skip
        refine le_cond rfl (fun _ => ?_) (fun _ => ?_)
        · skip
          exact le_ret (by first | rfl | (simp only [EN, brokerref13_Check_out]; done) | (simp only [EN, brokerref13_Check_out]; rfl))
        · skip
          exact le_ret (by first | rfl | (simp only [EN, brokerref13_Check_out]; done) | (simp only [EN, brokerref13_Check_out]; rfl))
theorem brokerref13_Check_ok (p0 : api_Pool) : Le (Option.map brokerref13_Check_out (brokerref13_Check p0)) (callW SE 15 [api_Pool.av p0] [] []) := by
  refine le_bodyC Cr15 rfl ?_
  refine Le.trans ?_ (le_of_eq (T15 _ _ _  p0).symm)
  unfold brokerref13_Check
  refine le_cond (by simp only [EN]) (fun _ => ?_) (fun _ => ?_)
  · skip
    exact le_ret (by first | rfl | (simp only [EN, brokerref13_Check_out]; done) | (simp only [EN, brokerref13_Check_out]; rfl))
  · skip
    exact brokerref13_Check_l4_ok fuel 0 p0
def C7 (Γ : Fun) (γ15 : Gm (Int)) : CFun := updC (bindC Γ) 15 brokerref13_Check_out γ15
theorem T7 (Γ : Fun) (γ15 : Gm (Int)) (Λ2 J : Lam) (p0 : api_Inbox) : bodyC SE (C7 Γ γ15) Λ2 J 7 [api_Inbox.av p0] [] [] =
  γ15 [api_Pool.av (api_Pool.mk p0.IDs 0)] [] [] fun r0 =>
  (some (.ret [.d (.int .i64 r0)] [] [])) := by kernel_rfl
abbrev X7 : CFun := C7 (callG SE good) (callT SE good 15 brokerref13_Check_out)
theorem Cr7 : C7 (callG SE good) (callT SE good 15 brokerref13_Check_out) = bindC (callG SE good) := by unfold C7; rw [updC_real (fun _ h => h)]
theorem brokerref15_Check_ok (p0 : api_Inbox) : Le (Option.map brokerref15_Check_out (brokerref15_Check p0)) (callW SE 7 [api_Inbox.av p0] [] []) := by
  refine le_bodyC Cr7 rfl ?_
  refine Le.trans ?_ (le_of_eq (T7 _ _ _ _  p0).symm)
  unfold brokerref15_Check
  refine le_call (good := good) (fun y => ⟨y, rfl⟩) brokerref13_Check_inj (brokerref13_Check_ok (api_Pool.mk p0.IDs 0)) (fun r0 _ => ?_)
  exact le_ret (by first | rfl | (simp only [EN, brokerref15_Check_out]; done) | (simp only [EN, brokerref15_Check_out]; rfl))
def C17 (Γ : Fun)  : CFun := bindC Γ
def R17_2 (C : CFun) (Λ2 J : Lam) (a0 : Int) (a1 : Int) (a2 : (List D)) : Res := lab SE C Λ2 J 17 0 [1, 0, 1, 0] (stoOf [(1, .d (.int .i64 a0)), (2, .ptr 1000000000 0), (5, .d (.int .i64 a1))] [⟨48, (List.map AV.d a2)⟩] [] [] [])
theorem T17 (Γ : Fun)  (Λ2 J : Lam) (p0 : api_Pool) (p1 : Int) : bodyC SE (C17 Γ) Λ2 J 17 [api_Pool.av p0, .d (.int .i64 p1)] [] [] =
  R17_2 (C17 Γ) Λ2 J p1 0 (api_Pool.enc p0) := by kernel_rfl
theorem T17_2 (Γ : Fun)  (Λ2 J : Lam) (x1 : Int) (x5 : Int) (b0 : api_Pool) : labU SE (C17 Γ) Λ2 J 17 0 [1, 0, 1, 0] (stoOf [(1, .d (.int .i64 x1)), (2, .ptr 1000000000 0), (5, .d (.int .i64 x5))] [⟨48, (List.map AV.d (api_Pool.enc b0))⟩] [] [] []) =
  cond (decide (x5 < (List.length (List.map (encI .i64) b0.Used) : Int))) (
   cond (decide (0 ≤ x5) && decide (x5 < (List.length (List.map (encI .i64) b0.Used) : Int))) (
    cond ((dInt (cellAt (elemAt (List.map (encI .i64) b0.Used) (Int.toNat x5)) 0)) == x1) (
     (some (.ret [.d (.bool true)] [] []))) (
    R17_2 (C17 Γ) Λ2 J x1 (IntKind.wrap .i64 (x5 + 1)) (api_Pool.enc b0))) none) (
  (some (.ret [.d (.bool false)] [] []))) := by kernel_rfl
abbrev X17 : CFun := C17 (callG SE good)
theorem Cr17 : C17 (callG SE good) = bindC (callG SE good) := by unfold C17; rfl
noncomputable abbrev Q17_2 (a0 : Int) (a1 : Int) (a2 : (List D)) : Res := R17_2 X17 (lam2 SE (callG SE good) (SE.hl 17) (SE.hr 17)) (J0 SE X17) a0 a1 a2
theorem brokerref13_Has_l2_ok : ∀ (fu : Nat) (x1 : Int) (x5 : Int) (b0 : api_Pool), Le (Option.map brokerref13_Has_out (brokerref13_Has_l2 fu x1 x5 b0)) (Q17_2 x1 x5 (api_Pool.enc b0)) := by
  intro fu
  induction fu with
  | zero => intros; exact le_none
  | succ fu ih =>
    intro x1 x5 b0
    refine Le.trans ?_ (le_of_eq ((lab_realC Cr17).trans (T17_2 _ _ _  x1 x5 b0)).symm)
    unfold brokerref13_Has_l2
    refine le_cond (by simp only [EN]) (fun _ => ?_) (fun _ => ?_)
    · skip
      refine le_cond (by simp only [EN]) (fun _ => ?_) (fun _ => le_none)
      refine le_cond (by simp only [EN]) (fun _ => ?_) (fun _ => ?_)
      · skip
        exact le_ret (by first | rfl | (simp only [EN, brokerref13_Has_out]; done) | (simp only [EN, brokerref13_Has_out]; rfl))
      · skip
        exact ih x1 (IntKind.wrap .i64 (x5 + 1)) b0
    · skip
      exact le_ret (by first | rfl | (simp only [EN, brokerref13_Has_out]; done) | (simp only [EN, brokerref13_Has_out]; rfl))
theorem brokerref13_Has_ok (p0 : api_Pool) (p1 : Int) : Le (Option.map brokerref13_Has_out (brokerref13_Has p0 p1)) (callW SE 17 [api_Pool.av p0, .d (.int .i64 p1)] [] []) := by
  refine le_bodyC Cr17 rfl ?_
  refine Le.trans ?_ (le_of_eq (T17 _ _ _  p0 p1).symm)
  unfold brokerref13_Has
  exact brokerref13_Has_l2_ok fuel p1 0 p0
def C9 (Γ : Fun) (γ17 : Gm (Bool)) : CFun := updC (bindC Γ) 17 brokerref13_Has_out γ17
theorem T9 (Γ : Fun) (γ17 : Gm (Bool)) (Λ2 J : Lam) (p0 : api_Inbox) (p1 : Int) : bodyC SE (C9 Γ γ17) Λ2 J 9 [api_Inbox.av p0, .d (.int .i64 p1)] [] [] =
  γ17 [api_Pool.av (api_Pool.mk p0.IDs 0), .d (.int .i64 p1)] [] [] fun r0 =>
  (some (.ret [.d (.bool r0)] [] [])) := by kernel_rfl
abbrev X9 : CFun := C9 (callG SE good) (callT SE good 17 brokerref13_Has_out)
theorem Cr9 : C9 (callG SE good) (callT SE good 17 brokerref13_Has_out) = bindC (callG SE good) := by unfold C9; rw [updC_real (fun _ h => h)]
theorem brokerref15_Has_ok (p0 : api_Inbox) (p1 : Int) : Le (Option.map brokerref15_Has_out (brokerref15_Has p0 p1)) (callW SE 9 [api_Inbox.av p0, .d (.int .i64 p1)] [] []) := by
  refine le_bodyC Cr9 rfl ?_
  refine Le.trans ?_ (le_of_eq (T9 _ _ _ _  p0 p1).symm)
  unfold brokerref15_Has
  refine le_call (good := good) (fun y => ⟨y, rfl⟩) brokerref13_Has_inj (brokerref13_Has_ok (api_Pool.mk p0.IDs 0) p1) (fun r0 _ => ?_)
  exact le_ret (by first | rfl | (simp only [EN, brokerref15_Has_out]; done) | (simp only [EN, brokerref15_Has_out]; rfl))
def C3 (Γ : Fun) (γ5 : Gm (Int)) (γ6 : Gm (Bool)) (γ7 : Gm (Int)) (γ8 : Gm (Bool)) (γ9 : Gm (Bool)) : CFun := updC (updC (updC (updC (updC (bindC Γ) 5 inbound_Check_out γ5) 6 brokerlaw15_awake_out γ6) 7 brokerref15_Check_out γ7) 8 inbound_Has_out γ8) 9 brokerref15_Has_out γ9
theorem T3 (Γ : Fun) (γ5 : Gm (Int)) (γ6 : Gm (Bool)) (γ7 : Gm (Int)) (γ8 : Gm (Bool)) (γ9 : Gm (Bool)) (Λ2 J : Lam) (p0 : api_Inbox) (p1 : Int) : bodyC SE (C3 Γ γ5 γ6 γ7 γ8 γ9) Λ2 J 3 [api_Inbox.av p0, .d (.int .i64 p1)] [] [] =
  γ5 [api_Inbox.av p0] [] [] fun r0 =>
  γ6 [] [] [] fun r1 =>
  cond r1 (
   γ7 [api_Inbox.av p0] [] [] fun r2 =>
   cond (r0 == r2) (
    cond (r0 != 0) (
     (some (.ret [.d (.bool true)] [] []))) (
    γ8 [api_Inbox.av p0, .d (.int .i64 p1)] [] [] fun r3 =>
    γ9 [api_Inbox.av p0, .d (.int .i64 p1)] [] [] fun r4 =>
    (some (.ret [.d (.bool (r3 == r4))] [] [])))) (
   (some (.ret [.d (.bool false)] [] [])))) (
  (some (.ret [.d (.bool false)] [] []))) := by kernel_rfl
abbrev X3 : CFun := C3 (callG SE good) (callT SE good 5 inbound_Check_out) (callT SE good 6 brokerlaw15_awake_out) (callT SE good 7 brokerref15_Check_out) (callT SE good 8 inbound_Has_out) (callT SE good 9 brokerref15_Has_out)
theorem Cr3 : C3 (callG SE good) (callT SE good 5 inbound_Check_out) (callT SE good 6 brokerlaw15_awake_out) (callT SE good 7 brokerref15_Check_out) (callT SE good 8 inbound_Has_out) (callT SE good 9 brokerref15_Has_out) = bindC (callG SE good) := by unfold C3; rw [updC_real (fun _ h => h), updC_real (fun _ h => h), updC_real (fun _ h => h), updC_real (fun _ h => h), updC_real (fun _ h => h)]
theorem brokerlaw15_InboundChecks_ok (p0 : api_Inbox) (p1 : Int) : Le (Option.map brokerlaw15_InboundChecks_out (brokerlaw15_InboundChecks p0 p1)) (callW SE 3 [api_Inbox.av p0, .d (.int .i64 p1)] [] []) := by
  refine le_bodyC Cr3 rfl ?_
  refine Le.trans ?_ (le_of_eq (T3 _ _ _ _ _ _ _ _  p0 p1).symm)
  unfold brokerlaw15_InboundChecks
  refine le_call (good := good) (fun y => ⟨y, rfl⟩) inbound_Check_inj (inbound_Check_ok p0) (fun r0 _ => ?_)
  refine le_call (good := good) (fun y => ⟨y, rfl⟩) brokerlaw15_awake_inj (brokerlaw15_awake_ok) (fun r1 _ => ?_)
  refine le_cond rfl (fun _ => ?_) (fun _ => ?_)
  · skip
    refine le_call (good := good) (fun y => ⟨y, rfl⟩) brokerref15_Check_inj (brokerref15_Check_ok p0) (fun r2 _ => ?_)
    refine le_cond rfl (fun _ => ?_) (fun _ => ?_)
    · skip
      refine le_cond rfl (fun _ => ?_) (fun _ => ?_)
      · skip
        exact le_ret (by first | rfl | (simp only [EN, brokerlaw15_InboundChecks_out]; done) | (simp only [EN, brokerlaw15_InboundChecks_out]; rfl))
      · skip
        refine le_call (good := good) (fun y => ⟨y, rfl⟩) inbound_Has_inj (inbound_Has_ok p0 p1) (fun r3 _ => ?_)
        refine le_call (good := good) (fun y => ⟨y, rfl⟩) brokerref15_Has_inj (brokerref15_Has_ok p0 p1) (fun r4 _ => ?_)
        exact le_ret (by first | rfl | (simp only [EN, brokerlaw15_InboundChecks_out]; done) | (simp only [EN, brokerlaw15_InboundChecks_out]; rfl))
    · skip
      exact le_ret (by first | rfl | (simp only [EN, brokerlaw15_InboundChecks_out]; done) | (simp only [EN, brokerlaw15_InboundChecks_out]; rfl))
  · skip
    exact le_ret (by first | rfl | (simp only [EN, brokerlaw15_InboundChecks_out]; done) | (simp only [EN, brokerlaw15_InboundChecks_out]; rfl))
def C19 (Γ : Fun)  : CFun := bindC Γ
def R19_3 (C : CFun) (Λ2 J : Lam) (a0 : Int) (a1 : Int) (a2 : (List D)) (a3 : (List D)) (a4 : (List (List D))) : Res := lab SE C Λ2 J 19 0 [1, 1, 0, 1, 0] (stoOf [(1, .d (.int .i64 a0)), (2, .ptr 1000000000 0), (4, .ptr 1000000001 0), (6, .row 3006), (7, .d (.int .i64 a1))] [⟨48, (List.map AV.d a2)⟩, ⟨48, (List.map AV.d a3)⟩] [] [] [(3006, ⟨[.int .i64], 3, 8, a4⟩)])
theorem T19 (Γ : Fun)  (Λ2 J : Lam) (p0 : api_Pool) (p1 : Int) : bodyC SE (C19 Γ) Λ2 J 19 [api_Pool.av p0, .d (.int .i64 p1)] [] [] =
  R19_3 (C19 Γ) Λ2 J p1 0 (api_Pool.enc p0) [D.sl [.int .i64] (List.map (encI .i64) []), D.int .i64 0] (List.map (encI .i64) []) := by kernel_rfl
theorem T19_3 (Γ : Fun)  (Λ2 J : Lam) (x1 : Int) (x7 : Int) (b0 : api_Pool) (b1 : api_Pool) (w3006 : (List Int)) : labU SE (C19 Γ) Λ2 J 19 0 [1, 1, 0, 1, 0] (stoOf [(1, .d (.int .i64 x1)), (2, .ptr 1000000000 0), (4, .ptr 1000000001 0), (6, .row 3006), (7, .d (.int .i64 x7))] [⟨48, (List.map AV.d (api_Pool.enc b0))⟩, ⟨48, (List.map AV.d (api_Pool.enc b1))⟩] [] [] [(3006, ⟨[.int .i64], 3, 8, (List.map (encI .i64) w3006)⟩)]) =
  cond (decide (x7 < (List.length (List.map (encI .i64) b0.Used) : Int))) (
   cond (decide (0 ≤ x7) && decide (x7 < (List.length (List.map (encI .i64) b0.Used) : Int))) (
    cond ((dInt (cellAt (elemAt (List.map (encI .i64) b0.Used) (Int.toNat x7)) 0)) != x1) (
     cond (decide (0 ≤ x7) && decide (x7 < (List.length (List.map (encI .i64) b0.Used) : Int))) (
      cond (decide ((List.length (List.map (encI .i64) w3006) + List.length [[D.int .i64 (dInt (cellAt (elemAt (List.map (encI .i64) b0.Used) (Int.toNat x7)) 0))]]) * 8 ≤ 140737488355328)) (
       R19_3 (C19 Γ) Λ2 J x1 (IntKind.wrap .i64 (x7 + 1)) (api_Pool.enc b0) (api_Pool.enc b1) (((List.map (encI .i64) w3006) ++ [[D.int .i64 (dInt (cellAt (elemAt (List.map (encI .i64) b0.Used) (Int.toNat x7)) 0))]]))) none) none) (
    R19_3 (C19 Γ) Λ2 J x1 (IntKind.wrap .i64 (x7 + 1)) (api_Pool.enc b0) (api_Pool.enc b1) (List.map (encI .i64) w3006))) none) (
  (some (.ret [api_Pool.av (api_Pool.mk w3006 b0.Last), .d (.bool (decide ((List.length (List.map (encI .i64) w3006) : Int) < (List.length (List.map (encI .i64) b0.Used) : Int))))] [] []))) := by kernel_rfl
abbrev X19 : CFun := C19 (callG SE good)
theorem Cr19 : C19 (callG SE good) = bindC (callG SE good) := by unfold C19; rfl
noncomputable abbrev Q19_3 (a0 : Int) (a1 : Int) (a2 : (List D)) (a3 : (List D)) (a4 : (List (List D))) : Res := R19_3 X19 (lam2 SE (callG SE good) (SE.hl 19) (SE.hr 19)) (J0 SE X19) a0 a1 a2 a3 a4
theorem brokerref13_Free_l3_ok : ∀ (fu : Nat) (x1 : Int) (x7 : Int) (b0 : api_Pool) (b1 : api_Pool) (w3006 : (List Int)), Le (Option.map brokerref13_Free_out (brokerref13_Free_l3 fu x1 x7 b0 b1 w3006)) (Q19_3 x1 x7 (api_Pool.enc b0) (api_Pool.enc b1) (List.map (encI .i64) w3006)) := by
  intro fu
  induction fu with
  | zero => intros; exact le_none
  | succ fu ih =>
    intro x1 x7 b0 b1 w3006
    refine Le.trans ?_ (le_of_eq ((lab_realC Cr19).trans (T19_3 _ _ _  x1 x7 b0 b1 w3006)).symm)
    unfold brokerref13_Free_l3
    refine le_cond (by simp only [EN]) (fun _ => ?_) (fun _ => ?_)
    · skip
      refine le_cond (by simp only [EN]) (fun _ => ?_) (fun _ => le_none)
      refine le_cond (by simp only [EN]) (fun _ => ?_) (fun _ => ?_)
      · skip
        refine le_cond (by simp only [EN]) (fun _ => ?_) (fun _ => le_none)
        refine le_cond (by simp only [EN]) (fun _ => ?_) (fun _ => le_none)
        first | (simp only [EN]; exact ih x1 (IntKind.wrap .i64 (x7 + 1)) b0 b1 (w3006 ++ [(List.getD b0.Used (Int.toNat x7) default)])) | exact ih x1 (IntKind.wrap .i64 (x7 + 1)) b0 b1 (w3006 ++ [(List.getD b0.Used (Int.toNat x7) default)])
      · skip
        exact ih x1 (IntKind.wrap .i64 (x7 + 1)) b0 b1 w3006
    · skip
      exact le_ret (by first | rfl | (simp only [EN, brokerref13_Free_out]; done) | (simp only [EN, brokerref13_Free_out]; rfl))
theorem brokerref13_Free_ok (p0 : api_Pool) (p1 : Int) : Le (Option.map brokerref13_Free_out (brokerref13_Free p0 p1)) (callW SE 19 [api_Pool.av p0, .d (.int .i64 p1)] [] []) := by
  refine le_bodyC Cr19 rfl ?_
  refine Le.trans ?_ (le_of_eq (T19 _ _ _  p0 p1).symm)
  unfold brokerref13_Free
  first | (simp only [EN]; exact brokerref13_Free_l3_ok fuel p1 0 p0 (api_Pool.mk ([] : List Int) 0) ([] : List Int)) | exact brokerref13_Free_l3_ok fuel p1 0 p0 (api_Pool.mk ([] : List Int) 0) ([] : List Int)
def C11 (Γ : Fun) (γ19 : Gm (api_Pool × Bool)) : CFun := updC (bindC Γ) 19 brokerref13_Free_out γ19
def R11_5 (C : CFun) (Λ2 J : Lam) (a0 : (List D)) (a1 : (List D)) (a2 : (List D)) (a3 : (List D)) : Res := lab SE C Λ2 J 11 0 [1, 1, 1, 0] (stoOf [(2, .ptr 1000000000 0), (3, .ptr 1000000001 0), (4, .ptr 1000000002 0), (5, .ptr 1000000003 0)] [⟨24, (List.map AV.d a0)⟩, ⟨37, (List.map AV.d a1)⟩, ⟨24, (List.map AV.d a2)⟩, ⟨37, (List.map AV.d a3)⟩] [] [] [])
theorem T11 (Γ : Fun) (γ19 : Gm (api_Pool × Bool)) (Λ2 J : Lam) (p0 : api_Inbox) (p1 : api_Packet) : bodyC SE (C11 Γ γ19) Λ2 J 11 [api_Inbox.av p0, api_Packet.av p1] [] [] =
  cond (p1.Kind != 6) (
   (some (.ret [.agg [.d (.sl [.int .i64] (List.map (encI .i64) []))], .agg [.d (.int .i64 0), .d (.int .i64 0), .d (.bool false), .d (.str ([] : Str)), .d (.str ([] : Str)), .d (.int .i64 0), .d (.bool false), .d (.int .i64 0), .d (.int .i64 0), .d (.str ([] : Str)), .d (.int .i64 0), .d (.sl api_Prop.ks (List.map api_Prop.enc [])), .d (.str ([] : Str)), .d (.str ([] : Str)), .d (.bool false), .d (.int .i64 0), .d (.int .i64 0), .d (.int .i64 0), .d (.bool false), .d (.int .i64 0), .d (.str ([] : Str)), .d (.str ([] : Str)), .d (.int .i64 0), .d (.bool false), .d (.int .i64 0), .d (.int .i64 0), .d (.str ([] : Str)), .d (.int .i64 0), .d (.sl api_Prop.ks (List.map api_Prop.enc [])), .d (.bool false), .d (.int .i64 0), .d (.sl api_Sub.ks (List.map api_Sub.enc [])), .d (.sl [.str] (List.map encS [])), .d (.sl [.int .i64] (List.map (encI .i64) []))], .d (.int .i64 10)] [] []))) (
  cond (decide (p1.ID < 1)) (
   (some (.ret [.agg [.d (.sl [.int .i64] (List.map (encI .i64) []))], .agg [.d (.int .i64 0), .d (.int .i64 0), .d (.bool false), .d (.str ([] : Str)), .d (.str ([] : Str)), .d (.int .i64 0), .d (.bool false), .d (.int .i64 0), .d (.int .i64 0), .d (.str ([] : Str)), .d (.int .i64 0), .d (.sl api_Prop.ks (List.map api_Prop.enc [])), .d (.str ([] : Str)), .d (.str ([] : Str)), .d (.bool false), .d (.int .i64 0), .d (.int .i64 0), .d (.int .i64 0), .d (.bool false), .d (.int .i64 0), .d (.str ([] : Str)), .d (.str ([] : Str)), .d (.int .i64 0), .d (.bool false), .d (.int .i64 0), .d (.int .i64 0), .d (.str ([] : Str)), .d (.int .i64 0), .d (.sl api_Prop.ks (List.map api_Prop.enc [])), .d (.bool false), .d (.int .i64 0), .d (.sl api_Sub.ks (List.map api_Sub.enc [])), .d (.sl [.str] (List.map encS [])), .d (.sl [.int .i64] (List.map (encI .i64) []))], .d (.int .i64 15)] [] []))) (
  cond (decide (p1.ID > 65535)) (
   (some (.ret [.agg [.d (.sl [.int .i64] (List.map (encI .i64) []))], .agg [.d (.int .i64 0), .d (.int .i64 0), .d (.bool false), .d (.str ([] : Str)), .d (.str ([] : Str)), .d (.int .i64 0), .d (.bool false), .d (.int .i64 0), .d (.int .i64 0), .d (.str ([] : Str)), .d (.int .i64 0), .d (.sl api_Prop.ks (List.map api_Prop.enc [])), .d (.str ([] : Str)), .d (.str ([] : Str)), .d (.bool false), .d (.int .i64 0), .d (.int .i64 0), .d (.int .i64 0), .d (.bool false), .d (.int .i64 0), .d (.str ([] : Str)), .d (.str ([] : Str)), .d (.int .i64 0), .d (.bool false), .d (.int .i64 0), .d (.int .i64 0), .d (.str ([] : Str)), .d (.int .i64 0), .d (.sl api_Prop.ks (List.map api_Prop.enc [])), .d (.bool false), .d (.int .i64 0), .d (.sl api_Sub.ks (List.map api_Sub.enc [])), .d (.sl [.str] (List.map encS [])), .d (.sl [.int .i64] (List.map (encI .i64) []))], .d (.int .i64 15)] [] []))) (
  R11_5 (C11 Γ γ19) Λ2 J (api_Inbox.enc p0) (api_Packet.enc p1) [D.sl [.int .i64] (List.map (encI .i64) [])] [D.int .i64 0, D.int .i64 0, D.bool false, D.str ([] : Str), D.str ([] : Str), D.int .i64 0, D.bool false, D.int .i64 0, D.int .i64 0, D.str ([] : Str), D.int .i64 0, D.sl api_Prop.ks (List.map api_Prop.enc []), D.str ([] : Str), D.str ([] : Str), D.bool false, D.int .i64 0, D.int .i64 0, D.int .i64 0, D.bool false, D.int .i64 0, D.str ([] : Str), D.str ([] : Str), D.int .i64 0, D.bool false, D.int .i64 0, D.int .i64 0, D.str ([] : Str), D.int .i64 0, D.sl api_Prop.ks (List.map api_Prop.enc []), D.bool false, D.int .i64 0, D.sl api_Sub.ks (List.map api_Sub.enc []), D.sl [.str] (List.map encS []), D.sl [.int .i64] (List.map (encI .i64) [])]))) := by kernel_rfl
theorem T11_5 (Γ : Fun) (γ19 : Gm (api_Pool × Bool)) (Λ2 J : Lam) (b0 : api_Inbox) (b1 : api_Packet) (b2 : api_Inbox) (b3 : api_Packet) : labU SE (C11 Γ γ19) Λ2 J 11 0 [1, 1, 1, 0] (stoOf [(2, .ptr 1000000000 0), (3, .ptr 1000000001 0), (4, .ptr 1000000002 0), (5, .ptr 1000000003 0)] [⟨24, (List.map AV.d (api_Inbox.enc b0))⟩, ⟨37, (List.map AV.d (api_Packet.enc b1))⟩, ⟨24, (List.map AV.d (api_Inbox.enc b2))⟩, ⟨37, (List.map AV.d (api_Packet.enc b3))⟩] [] [] []) =
  γ19 [api_Pool.av (api_Pool.mk b0.IDs 0), .d (.int .i64 b1.ID)] [] [] fun r0 =>
  (some (.ret [api_Inbox.av (api_Inbox.mk r0.1.Used), .agg [.d (.int .i64 7), .d (.int .i64 b1.ID), .d (.bool false), .d (.str ([] : Str)), .d (.str ([] : Str)), .d (.int .i64 0), .d (.bool false), .d (.int .i64 0), .d (.int .i64 0), .d (.str ([] : Str)), .d (.int .i64 0), .d (.sl api_Prop.ks (List.map api_Prop.enc [])), .d (.str ([] : Str)), .d (.str ([] : Str)), .d (.bool false), .d (.int .i64 0), .d (.int .i64 0), .d (.int .i64 0), .d (.bool false), .d (.int .i64 0), .d (.str ([] : Str)), .d (.str ([] : Str)), .d (.int .i64 0), .d (.bool false), .d (.int .i64 0), .d (.int .i64 0), .d (.str ([] : Str)), .d (.int .i64 0), .d (.sl api_Prop.ks (List.map api_Prop.enc [])), .d (.bool false), .d (.int .i64 0), .d (.sl api_Sub.ks (List.map api_Sub.enc [])), .d (.sl [.str] (List.map encS [])), .d (.sl [.int .i64] (List.map (encI .i64) []))], .d (.int .i64 0)] [] [])) := by kernel_rfl
abbrev X11 : CFun := C11 (callG SE good) (callT SE good 19 brokerref13_Free_out)
theorem Cr11 : C11 (callG SE good) (callT SE good 19 brokerref13_Free_out) = bindC (callG SE good) := by unfold C11; rw [updC_real (fun _ h => h)]
noncomputable abbrev Q11_5 (a0 : (List D)) (a1 : (List D)) (a2 : (List D)) (a3 : (List D)) : Res := R11_5 X11 (lam2 SE (callG SE good) (SE.hl 11) (SE.hr 11)) (J0 SE X11) a0 a1 a2 a3
theorem brokerref15_Release_j5_ok (b0 : api_Inbox) (b1 : api_Packet) (b2 : api_Inbox) (b3 : api_Packet) : Le (Option.map brokerref15_Release_out (brokerref15_Release_j5 b0 b1 b2 b3)) (Q11_5 (api_Inbox.enc b0) (api_Packet.enc b1) (api_Inbox.enc b2) (api_Packet.enc b3)) := by
  refine Le.trans ?_ (le_of_eq ((lab_realC Cr11).trans (T11_5 _ _ _ _  b0 b1 b2 b3)).symm)
  unfold brokerref15_Release_j5
  refine le_call (good := good) (fun y => ⟨y, rfl⟩) brokerref13_Free_inj (brokerref13_Free_ok (api_Pool.mk b0.IDs 0) b1.ID) (fun r0 _ => ?_)
  exact le_ret (by first | rfl | (simp only [EN, brokerref15_Release_out]; done) | (simp only [EN, brokerref15_Release_out]; rfl))
theorem brokerref15_Release_ok (p0 : api_Inbox) (p1 : api_Packet) : Le (Option.map brokerref15_Release_out (brokerref15_Release p0 p1)) (callW SE 11 [api_Inbox.av p0, api_Packet.av p1] [] []) := by
  refine le_bodyC Cr11 rfl ?_
  refine Le.trans ?_ (le_of_eq (T11 _ _ _ _  p0 p1).symm)
  unfold brokerref15_Release
  refine le_cond rfl (fun _ => ?_) (fun _ => ?_)
  · skip
    exact le_ret (by first | rfl | (simp only [EN, brokerref15_Release_out]; done) | (simp only [EN, brokerref15_Release_out]; rfl))
  · skip
    refine le_cond rfl (fun _ => ?_) (fun _ => ?_)
    · skip
      exact le_ret (by first | rfl | (simp only [EN, brokerref15_Release_out]; done) | (simp only [EN, brokerref15_Release_out]; rfl))
    · skip
      refine le_cond rfl (fun _ => ?_) (fun _ => ?_)
      · skip
        exact le_ret (by first | rfl | (simp only [EN, brokerref15_Release_out]; done) | (simp only [EN, brokerref15_Release_out]; rfl))
      · skip
        first | (simp only [EN]; exact brokerref15_Release_j5_ok p0 p1 (api_Inbox.mk ([] : List Int)) ((api_Packet.mk 0 0 false (api_Message.mk ([] : Str) ([] : Str) 0 false 0 0 ([] : Str) 0 ([] : List api_Prop)) ([] : Str) ([] : Str) false 0 0 0 (api_Will.mk false 0 (api_Message.mk ([] : Str) ([] : Str) 0 false 0 0 ([] : Str) 0 ([] : List api_Prop))) false 0 ([] : List api_Sub) ([] : List Str) ([] : List Int)))) | exact brokerref15_Release_j5_ok p0 p1 (api_Inbox.mk ([] : List Int)) ((api_Packet.mk 0 0 false (api_Message.mk ([] : Str) ([] : Str) 0 false 0 0 ([] : Str) 0 ([] : List api_Prop)) ([] : Str) ([] : Str) false 0 0 0 (api_Will.mk false 0 (api_Message.mk ([] : Str) ([] : Str) 0 false 0 0 ([] : Str) 0 ([] : List api_Prop))) false 0 ([] : List api_Sub) ([] : List Str) ([] : List Int)))
def C20 (Γ : Fun)  : CFun := bindC Γ
def R20_4 (C : CFun) (Λ2 J : Lam) (a0 : (List (List D))) (a1 : (List (List D))) (a2 : Int) : Res := lab SE C Λ2 J 20 0 [1, 1, 0, 1, 0] (stoOf [(0, .d (.sl [.int .i64] a0)), (1, .d (.sl [.int .i64] a1)), (5, .d (.int .i64 a2))] [] [] [] [])
theorem T20 (Γ : Fun)  (Λ2 J : Lam) (p0 : (List Int)) (p1 : (List Int)) : bodyC SE (C20 Γ) Λ2 J 20 [.d (.sl [.int .i64] (List.map (encI .i64) p0)), .d (.sl [.int .i64] (List.map (encI .i64) p1))] [] [] =
  cond ((List.length (List.map (encI .i64) p0) : Int) != (List.length (List.map (encI .i64) p1) : Int)) (
   (some (.ret [.d (.bool false)] [] []))) (
  R20_4 (C20 Γ) Λ2 J (List.map (encI .i64) p0) (List.map (encI .i64) p1) 0) := by kernel_rfl
theorem T20_4 (Γ : Fun)  (Λ2 J : Lam) (x0 : (List Int)) (x1 : (List Int)) (x5 : Int) : labU SE (C20 Γ) Λ2 J 20 0 [1, 1, 0, 1, 0] (stoOf [(0, .d (.sl [.int .i64] (List.map (encI .i64) x0))), (1, .d (.sl [.int .i64] (List.map (encI .i64) x1))), (5, .d (.int .i64 x5))] [] [] [] []) =
  cond (decide (x5 < (List.length (List.map (encI .i64) x0) : Int))) (
   cond (decide (0 ≤ x5) && decide (x5 < (List.length (List.map (encI .i64) x0) : Int))) (
    cond (decide (0 ≤ x5) && decide (x5 < (List.length (List.map (encI .i64) x1) : Int))) (
     cond ((dInt (cellAt (elemAt (List.map (encI .i64) x0) (Int.toNat x5)) 0)) != (dInt (cellAt (elemAt (List.map (encI .i64) x1) (Int.toNat x5)) 0))) (
      (some (.ret [.d (.bool false)] [] []))) (
     R20_4 (C20 Γ) Λ2 J (List.map (encI .i64) x0) (List.map (encI .i64) x1) (IntKind.wrap .i64 (x5 + 1)))) none) none) (
  (some (.ret [.d (.bool true)] [] []))) := by kernel_rfl
abbrev X20 : CFun := C20 (callG SE good)
theorem Cr20 : C20 (callG SE good) = bindC (callG SE good) := by unfold C20; rfl
noncomputable abbrev Q20_4 (a0 : (List (List D))) (a1 : (List (List D))) (a2 : Int) : Res := R20_4 X20 (lam2 SE (callG SE good) (SE.hl 20) (SE.hr 20)) (J0 SE X20) a0 a1 a2
theorem brokerref13_Ints_l4_ok : ∀ (fu : Nat) (x0 : (List Int)) (x1 : (List Int)) (x5 : Int), Le (Option.map brokerref13_Ints_out (brokerref13_Ints_l4 fu x0 x1 x5)) (Q20_4 (List.map (encI .i64) x0) (List.map (encI .i64) x1) x5) := by
  intro fu
  induction fu with
  | zero => intros; exact le_none
  | succ fu ih =>
    intro x0 x1 x5
    refine Le.trans ?_ (le_of_eq ((lab_realC Cr20).trans (T20_4 _ _ _  x0 x1 x5)).symm)
    unfold brokerref13_Ints_l4
    refine le_cond (by simp only [EN]) (fun _ => ?_) (fun _ => ?_)
    · skip
      refine le_cond (by simp only [EN]) (fun _ => ?_) (fun _ => le_none)
      refine le_cond (by simp only [EN]) (fun _ => ?_) (fun _ => le_none)
      refine le_cond (by simp only [EN]) (fun _ => ?_) (fun _ => ?_)
      · skip
        exact le_ret (by first | rfl | (simp only [EN, brokerref13_Ints_out]; done) | (simp only [EN, brokerref13_Ints_out]; rfl))
      · skip
        exact ih x0 x1 (IntKind.wrap .i64 (x5 + 1))
    · skip
      exact le_ret (by first | rfl | (simp only [EN, brokerref13_Ints_out]; done) | (simp only [EN, brokerref13_Ints_out]; rfl))
theorem brokerref13_Ints_ok (p0 : (List Int)) (p1 : (List Int)) : Le (Option.map brokerref13_Ints_out (brokerref13_Ints p0 p1)) (callW SE 20 [.d (.sl [.int .i64] (List.map (encI .i64) p0)), .d (.sl [.int .i64] (List.map (encI .i64) p1))] [] []) := by
  refine le_bodyC Cr20 rfl ?_
  refine Le.trans ?_ (le_of_eq (T20 _ _ _  p0 p1).symm)
  unfold brokerref13_Ints
  refine le_cond (by simp only [EN]) (fun _ => ?_) (fun _ => ?_)
  · skip
    exact le_ret (by first | rfl | (simp only [EN, brokerref13_Ints_out]; done) | (simp only [EN, brokerref13_Ints_out]; rfl))
  · skip
    exact brokerref13_Ints_l4_ok fuel p0 p1 0
def C12 (Γ : Fun) (γ20 : Gm (Bool)) : CFun := updC (bindC Γ) 20 brokerref13_Ints_out γ20
theorem T12 (Γ : Fun) (γ20 : Gm (Bool)) (Λ2 J : Lam) (p0 : api_Inbox) (p1 : api_Inbox) : bodyC SE (C12 Γ γ20) Λ2 J 12 [api_Inbox.av p0, api_Inbox.av p1] [] [] =
  γ20 [.d (.sl [.int .i64] (List.map (encI .i64) p0.IDs)), .d (.sl [.int .i64] (List.map (encI .i64) p1.IDs))] [] [] fun r0 =>
  (some (.ret [.d (.bool r0)] [] [])) := by kernel_rfl
abbrev X12 : CFun := C12 (callG SE good) (callT SE good 20 brokerref13_Ints_out)
theorem Cr12 : C12 (callG SE good) (callT SE good 20 brokerref13_Ints_out) = bindC (callG SE good) := by unfold C12; rw [updC_real (fun _ h => h)]
theorem brokerref15_Same_ok (p0 : api_Inbox) (p1 : api_Inbox) : Le (Option.map brokerref15_Same_out (brokerref15_Same p0 p1)) (callW SE 12 [api_Inbox.av p0, api_Inbox.av p1] [] []) := by
  refine le_bodyC Cr12 rfl ?_
  refine Le.trans ?_ (le_of_eq (T12 _ _ _ _  p0 p1).symm)
  unfold brokerref15_Same
  refine le_call (good := good) (fun y => ⟨y, rfl⟩) brokerref13_Ints_inj (brokerref13_Ints_ok p0.IDs p1.IDs) (fun r0 _ => ?_)
  exact le_ret (by first | rfl | (simp only [EN, brokerref15_Same_out]; done) | (simp only [EN, brokerref15_Same_out]; rfl))
def C33 (Γ : Fun)  : CFun := bindC Γ
def R33_4 (C : CFun) (Λ2 J : Lam) (a0 : (List (List D))) (a1 : (List (List D))) (a2 : Int) : Res := lab SE C Λ2 J 33 0 [1, 1, 0, 1, 0] (stoOf [(0, .d (.sl api_Prop.ks a0)), (1, .d (.sl api_Prop.ks a1)), (5, .d (.int .i64 a2))] [] [] [] [])
theorem T33 (Γ : Fun)  (Λ2 J : Lam) (p0 : (List api_Prop)) (p1 : (List api_Prop)) : bodyC SE (C33 Γ) Λ2 J 33 [.d (.sl api_Prop.ks (List.map api_Prop.enc p0)), .d (.sl api_Prop.ks (List.map api_Prop.enc p1))] [] [] =
  cond ((List.length (List.map api_Prop.enc p0) : Int) != (List.length (List.map api_Prop.enc p1) : Int)) (
   (some (.ret [.d (.bool false)] [] []))) (
  R33_4 (C33 Γ) Λ2 J (List.map api_Prop.enc p0) (List.map api_Prop.enc p1) 0) := by kernel_rfl
theorem T33_4 (Γ : Fun)  (Λ2 J : Lam) (x0 : (List api_Prop)) (x1 : (List api_Prop)) (x5 : Int) : labU SE (C33 Γ) Λ2 J 33 0 [1, 1, 0, 1, 0] (stoOf [(0, .d (.sl api_Prop.ks (List.map api_Prop.enc x0))), (1, .d (.sl api_Prop.ks (List.map api_Prop.enc x1))), (5, .d (.int .i64 x5))] [] [] [] []) =
  cond (decide (x5 < (List.length (List.map api_Prop.enc x0) : Int))) (
   cond (decide (0 ≤ x5) && decide (x5 < (List.length (List.map api_Prop.enc x0) : Int))) (
    cond (decide (0 ≤ x5) && decide (x5 < (List.length (List.map api_Prop.enc x1) : Int))) (
     cond (!(((dStr (cellAt (elemAt (List.map api_Prop.enc x0) (Int.toNat x5)) 0)) == (dStr (cellAt (elemAt (List.map api_Prop.enc x1) (Int.toNat x5)) 0))) && (((dStr (cellAt (elemAt (List.map api_Prop.enc x0) (Int.toNat x5)) 1)) == (dStr (cellAt (elemAt (List.map api_Prop.enc x1) (Int.toNat x5)) 1))) && true))) (
      (some (.ret [.d (.bool false)] [] []))) (
     R33_4 (C33 Γ) Λ2 J (List.map api_Prop.enc x0) (List.map api_Prop.enc x1) (IntKind.wrap .i64 (x5 + 1)))) none) none) (
  (some (.ret [.d (.bool true)] [] []))) := by kernel_rfl
abbrev X33 : CFun := C33 (callG SE good)
theorem Cr33 : C33 (callG SE good) = bindC (callG SE good) := by unfold C33; rfl
noncomputable abbrev Q33_4 (a0 : (List (List D))) (a1 : (List (List D))) (a2 : Int) : Res := R33_4 X33 (lam2 SE (callG SE good) (SE.hl 33) (SE.hr 33)) (J0 SE X33) a0 a1 a2
theorem brokerref05_SameProps_l4_ok : ∀ (fu : Nat) (x0 : (List api_Prop)) (x1 : (List api_Prop)) (x5 : Int), Le (Option.map brokerref05_SameProps_out (brokerref05_SameProps_l4 fu x0 x1 x5)) (Q33_4 (List.map api_Prop.enc x0) (List.map api_Prop.enc x1) x5) := by
  intro fu
  induction fu with
  | zero => intros; exact le_none
  | succ fu ih =>
    intro x0 x1 x5
    refine Le.trans ?_ (le_of_eq ((lab_realC Cr33).trans (T33_4 _ _ _  x0 x1 x5)).symm)
    unfold brokerref05_SameProps_l4
    refine le_cond (by simp only [EN]) (fun _ => ?_) (fun _ => ?_)
    · skip
      refine le_cond (by simp only [EN]) (fun _ => ?_) (fun _ => le_none)
      refine le_cond (by simp only [EN]) (fun _ => ?_) (fun _ => le_none)
      refine le_cond (by simp only [EN]) (fun _ => ?_) (fun _ => ?_)
      · skip
        exact le_ret (by first | rfl | (simp only [EN, brokerref05_SameProps_out]; done) | (simp only [EN, brokerref05_SameProps_out]; rfl))
      · skip
        exact ih x0 x1 (IntKind.wrap .i64 (x5 + 1))
    · skip
      exact le_ret (by first | rfl | (simp only [EN, brokerref05_SameProps_out]; done) | (simp only [EN, brokerref05_SameProps_out]; rfl))
theorem brokerref05_SameProps_ok (p0 : (List api_Prop)) (p1 : (List api_Prop)) : Le (Option.map brokerref05_SameProps_out (brokerref05_SameProps p0 p1)) (callW SE 33 [.d (.sl api_Prop.ks (List.map api_Prop.enc p0)), .d (.sl api_Prop.ks (List.map api_Prop.enc p1))] [] []) := by
  refine le_bodyC Cr33 rfl ?_
  refine Le.trans ?_ (le_of_eq (T33 _ _ _  p0 p1).symm)
  unfold brokerref05_SameProps
  refine le_cond (by simp only [EN]) (fun _ => ?_) (fun _ => ?_)
  · skip
    exact le_ret (by first | rfl | (simp only [EN, brokerref05_SameProps_out]; done) | (simp only [EN, brokerref05_SameProps_out]; rfl))
  · skip
    exact brokerref05_SameProps_l4_ok fuel p0 p1 0
def C21 (Γ : Fun) (γ33 : Gm (Bool)) : CFun := updC (bindC Γ) 33 brokerref05_SameProps_out γ33
theorem T21 (Γ : Fun) (γ33 : Gm (Bool)) (Λ2 J : Lam) (p0 : api_Message) (p1 : api_Message) : bodyC SE (C21 Γ γ33) Λ2 J 21 [api_Message.av p0, api_Message.av p1] [] [] =
  cond (p0.Topic == p1.Topic) (
   cond (p0.Payload == p1.Payload) (
    cond (p0.Level == p1.Level) (
     cond (p0.Retain == p1.Retain) (
      cond (p0.Priority == p1.Priority) (
       cond (p0.Expires == p1.Expires) (
        cond (p0.From == p1.From) (
         cond (p0.Seq == p1.Seq) (
          γ33 [.d (.sl api_Prop.ks (List.map api_Prop.enc p0.Props)), .d (.sl api_Prop.ks (List.map api_Prop.enc p1.Props))] [] [] fun r0 =>
          (some (.ret [.d (.bool r0)] [] []))) (
         (some (.ret [.d (.bool false)] [] [])))) (
        (some (.ret [.d (.bool false)] [] [])))) (
       (some (.ret [.d (.bool false)] [] [])))) (
      (some (.ret [.d (.bool false)] [] [])))) (
     (some (.ret [.d (.bool false)] [] [])))) (
    (some (.ret [.d (.bool false)] [] [])))) (
   (some (.ret [.d (.bool false)] [] [])))) (
  (some (.ret [.d (.bool false)] [] []))) := by kernel_rfl
abbrev X21 : CFun := C21 (callG SE good) (callT SE good 33 brokerref05_SameProps_out)
theorem Cr21 : C21 (callG SE good) (callT SE good 33 brokerref05_SameProps_out) = bindC (callG SE good) := by unfold C21; rw [updC_real (fun _ h => h)]
theorem brokerref05_Same_ok (p0 : api_Message) (p1 : api_Message) : Le (Option.map brokerref05_Same_out (brokerref05_Same p0 p1)) (callW SE 21 [api_Message.av p0, api_Message.av p1] [] []) := by
  refine le_bodyC Cr21 rfl ?_
  refine Le.trans ?_ (le_of_eq (T21 _ _ _ _  p0 p1).symm)
  unfold brokerref05_Same
  refine le_cond rfl (fun _ => ?_) (fun _ => ?_)
  · skip
    refine le_cond rfl (fun _ => ?_) (fun _ => ?_)
    · skip
      refine le_cond rfl (fun _ => ?_) (fun _ => ?_)
      · skip
        refine le_cond rfl (fun _ => ?_) (fun _ => ?_)
        · skip
          refine le_cond rfl (fun _ => ?_) (fun _ => ?_)
          · skip
            refine le_cond rfl (fun _ => ?_) (fun _ => ?_)
            · skip
              refine le_cond rfl (fun _ => ?_) (fun _ => ?_)
              · skip
                refine le_cond rfl (fun _ => ?_) (fun _ => ?_)
                · skip
                  refine le_call (good := good) (fun y => ⟨y, rfl⟩) brokerref05_SameProps_inj (brokerref05_SameProps_ok p0.Props p1.Props) (fun r0 _ => ?_)
                  exact le_ret (by first | rfl | (simp only [EN, brokerref05_Same_out]; done) | (simp only [EN, brokerref05_Same_out]; rfl))
                · skip
                  exact le_ret (by first | rfl | (simp only [EN, brokerref05_Same_out]; done) | (simp only [EN, brokerref05_Same_out]; rfl))
              · skip
                exact le_ret (by first | rfl | (simp only [EN, brokerref05_Same_out]; done) | (simp only [EN, brokerref05_Same_out]; rfl))
            · skip
              exact le_ret (by first | rfl | (simp only [EN, brokerref05_Same_out]; done) | (simp only [EN, brokerref05_Same_out]; rfl))
          · skip
            exact le_ret (by first | rfl | (simp only [EN, brokerref05_Same_out]; done) | (simp only [EN, brokerref05_Same_out]; rfl))
        · skip
          exact le_ret (by first | rfl | (simp only [EN, brokerref05_Same_out]; done) | (simp only [EN, brokerref05_Same_out]; rfl))
      · skip
        exact le_ret (by first | rfl | (simp only [EN, brokerref05_Same_out]; done) | (simp only [EN, brokerref05_Same_out]; rfl))
    · skip
      exact le_ret (by first | rfl | (simp only [EN, brokerref05_Same_out]; done) | (simp only [EN, brokerref05_Same_out]; rfl))
  · skip
    exact le_ret (by first | rfl | (simp only [EN, brokerref05_Same_out]; done) | (simp only [EN, brokerref05_Same_out]; rfl))
def C22 (Γ : Fun) (γ21 : Gm (Bool)) : CFun := updC (bindC Γ) 21 brokerref05_Same_out γ21
theorem T22 (Γ : Fun) (γ21 : Gm (Bool)) (Λ2 J : Lam) (p0 : api_Will) (p1 : api_Will) : bodyC SE (C22 Γ γ21) Λ2 J 22 [api_Will.av p0, api_Will.av p1] [] [] =
  cond (p0.Set == p1.Set) (
   cond (p0.Delay == p1.Delay) (
    γ21 [api_Message.av p0.Message, api_Message.av p1.Message] [] [] fun r0 =>
    (some (.ret [.d (.bool r0)] [] []))) (
   (some (.ret [.d (.bool false)] [] [])))) (
  (some (.ret [.d (.bool false)] [] []))) := by kernel_rfl
abbrev X22 : CFun := C22 (callG SE good) (callT SE good 21 brokerref05_Same_out)
theorem Cr22 : C22 (callG SE good) (callT SE good 21 brokerref05_Same_out) = bindC (callG SE good) := by unfold C22; rw [updC_real (fun _ h => h)]
theorem brokerref06_SameWill_ok (p0 : api_Will) (p1 : api_Will) : Le (Option.map brokerref06_SameWill_out (brokerref06_SameWill p0 p1)) (callW SE 22 [api_Will.av p0, api_Will.av p1] [] []) := by
  refine le_bodyC Cr22 rfl ?_
  refine Le.trans ?_ (le_of_eq (T22 _ _ _ _  p0 p1).symm)
  unfold brokerref06_SameWill
  refine le_cond rfl (fun _ => ?_) (fun _ => ?_)
  · skip
    refine le_cond rfl (fun _ => ?_) (fun _ => ?_)
    · skip
      refine le_call (good := good) (fun y => ⟨y, rfl⟩) brokerref05_Same_inj (brokerref05_Same_ok p0.Message p1.Message) (fun r0 _ => ?_)
      exact le_ret (by first | rfl | (simp only [EN, brokerref06_SameWill_out]; done) | (simp only [EN, brokerref06_SameWill_out]; rfl))
    · skip
      exact le_ret (by first | rfl | (simp only [EN, brokerref06_SameWill_out]; done) | (simp only [EN, brokerref06_SameWill_out]; rfl))
  · skip
    exact le_ret (by first | rfl | (simp only [EN, brokerref06_SameWill_out]; done) | (simp only [EN, brokerref06_SameWill_out]; rfl))
def C23 (Γ : Fun)  : CFun := bindC Γ
def R23_4 (C : CFun) (Λ2 J : Lam) (a0 : (List (List D))) (a1 : (List (List D))) (a2 : Int) : Res := lab SE C Λ2 J 23 0 [1, 1, 0, 1, 0] (stoOf [(0, .d (.sl api_Sub.ks a0)), (1, .d (.sl api_Sub.ks a1)), (5, .d (.int .i64 a2))] [] [] [] [])
theorem T23 (Γ : Fun)  (Λ2 J : Lam) (p0 : (List api_Sub)) (p1 : (List api_Sub)) : bodyC SE (C23 Γ) Λ2 J 23 [.d (.sl api_Sub.ks (List.map api_Sub.enc p0)), .d (.sl api_Sub.ks (List.map api_Sub.enc p1))] [] [] =
  cond ((List.length (List.map api_Sub.enc p0) : Int) != (List.length (List.map api_Sub.enc p1) : Int)) (
   (some (.ret [.d (.bool false)] [] []))) (
  R23_4 (C23 Γ) Λ2 J (List.map api_Sub.enc p0) (List.map api_Sub.enc p1) 0) := by kernel_rfl
theorem T23_4 (Γ : Fun)  (Λ2 J : Lam) (x0 : (List api_Sub)) (x1 : (List api_Sub)) (x5 : Int) : labU SE (C23 Γ) Λ2 J 23 0 [1, 1, 0, 1, 0] (stoOf [(0, .d (.sl api_Sub.ks (List.map api_Sub.enc x0))), (1, .d (.sl api_Sub.ks (List.map api_Sub.enc x1))), (5, .d (.int .i64 x5))] [] [] [] []) =
  cond (decide (x5 < (List.length (List.map api_Sub.enc x0) : Int))) (
   cond (decide (0 ≤ x5) && decide (x5 < (List.length (List.map api_Sub.enc x0) : Int))) (
    cond (decide (0 ≤ x5) && decide (x5 < (List.length (List.map api_Sub.enc x1) : Int))) (
     cond (!(((dStr (cellAt (elemAt (List.map api_Sub.enc x0) (Int.toNat x5)) 0)) == (dStr (cellAt (elemAt (List.map api_Sub.enc x1) (Int.toNat x5)) 0))) && (((dInt (cellAt (elemAt (List.map api_Sub.enc x0) (Int.toNat x5)) 1)) == (dInt (cellAt (elemAt (List.map api_Sub.enc x1) (Int.toNat x5)) 1))) && (((dBool (cellAt (elemAt (List.map api_Sub.enc x0) (Int.toNat x5)) 2)) == (dBool (cellAt (elemAt (List.map api_Sub.enc x1) (Int.toNat x5)) 2))) && true)))) (
      (some (.ret [.d (.bool false)] [] []))) (
     R23_4 (C23 Γ) Λ2 J (List.map api_Sub.enc x0) (List.map api_Sub.enc x1) (IntKind.wrap .i64 (x5 + 1)))) none) none) (
  (some (.ret [.d (.bool true)] [] []))) := by kernel_rfl
abbrev X23 : CFun := C23 (callG SE good)
theorem Cr23 : C23 (callG SE good) = bindC (callG SE good) := by unfold C23; rfl
noncomputable abbrev Q23_4 (a0 : (List (List D))) (a1 : (List (List D))) (a2 : Int) : Res := R23_4 X23 (lam2 SE (callG SE good) (SE.hl 23) (SE.hr 23)) (J0 SE X23) a0 a1 a2
theorem brokerref06_SameSubs_l4_ok : ∀ (fu : Nat) (x0 : (List api_Sub)) (x1 : (List api_Sub)) (x5 : Int), Le (Option.map brokerref06_SameSubs_out (brokerref06_SameSubs_l4 fu x0 x1 x5)) (Q23_4 (List.map api_Sub.enc x0) (List.map api_Sub.enc x1) x5) := by
  intro fu
  induction fu with
  | zero => intros; exact le_none
  | succ fu ih =>
    intro x0 x1 x5
    refine Le.trans ?_ (le_of_eq ((lab_realC Cr23).trans (T23_4 _ _ _  x0 x1 x5)).symm)
    unfold brokerref06_SameSubs_l4
    refine le_cond (by simp only [EN]) (fun _ => ?_) (fun _ => ?_)
    · skip
      refine le_cond (by simp only [EN]) (fun _ => ?_) (fun _ => le_none)
      refine le_cond (by simp only [EN]) (fun _ => ?_) (fun _ => le_none)
      refine le_cond (by simp only [EN]) (fun _ => ?_) (fun _ => ?_)
      · skip
        exact le_ret (by first | rfl | (simp only [EN, brokerref06_SameSubs_out]; done) | (simp only [EN, brokerref06_SameSubs_out]; rfl))
      · skip
        exact ih x0 x1 (IntKind.wrap .i64 (x5 + 1))
    · skip
      exact le_ret (by first | rfl | (simp only [EN, brokerref06_SameSubs_out]; done) | (simp only [EN, brokerref06_SameSubs_out]; rfl))
theorem brokerref06_SameSubs_ok (p0 : (List api_Sub)) (p1 : (List api_Sub)) : Le (Option.map brokerref06_SameSubs_out (brokerref06_SameSubs p0 p1)) (callW SE 23 [.d (.sl api_Sub.ks (List.map api_Sub.enc p0)), .d (.sl api_Sub.ks (List.map api_Sub.enc p1))] [] []) := by
  refine le_bodyC Cr23 rfl ?_
  refine Le.trans ?_ (le_of_eq (T23 _ _ _  p0 p1).symm)
  unfold brokerref06_SameSubs
  refine le_cond (by simp only [EN]) (fun _ => ?_) (fun _ => ?_)
  · skip
    exact le_ret (by first | rfl | (simp only [EN, brokerref06_SameSubs_out]; done) | (simp only [EN, brokerref06_SameSubs_out]; rfl))
  · skip
    exact brokerref06_SameSubs_l4_ok fuel p0 p1 0
def C24 (Γ : Fun)  : CFun := bindC Γ
def R24_4 (C : CFun) (Λ2 J : Lam) (a0 : (List (List D))) (a1 : (List (List D))) (a2 : Int) : Res := lab SE C Λ2 J 24 0 [1, 1, 0, 1, 0] (stoOf [(0, .d (.sl [.str] a0)), (1, .d (.sl [.str] a1)), (5, .d (.int .i64 a2))] [] [] [] [])
theorem T24 (Γ : Fun)  (Λ2 J : Lam) (p0 : (List Str)) (p1 : (List Str)) : bodyC SE (C24 Γ) Λ2 J 24 [.d (.sl [.str] (List.map encS p0)), .d (.sl [.str] (List.map encS p1))] [] [] =
  cond ((List.length (List.map encS p0) : Int) != (List.length (List.map encS p1) : Int)) (
   (some (.ret [.d (.bool false)] [] []))) (
  R24_4 (C24 Γ) Λ2 J (List.map encS p0) (List.map encS p1) 0) := by kernel_rfl
theorem T24_4 (Γ : Fun)  (Λ2 J : Lam) (x0 : (List Str)) (x1 : (List Str)) (x5 : Int) : labU SE (C24 Γ) Λ2 J 24 0 [1, 1, 0, 1, 0] (stoOf [(0, .d (.sl [.str] (List.map encS x0))), (1, .d (.sl [.str] (List.map encS x1))), (5, .d (.int .i64 x5))] [] [] [] []) =
  cond (decide (x5 < (List.length (List.map encS x0) : Int))) (
   cond (decide (0 ≤ x5) && decide (x5 < (List.length (List.map encS x0) : Int))) (
    cond (decide (0 ≤ x5) && decide (x5 < (List.length (List.map encS x1) : Int))) (
     cond (!((dStr (cellAt (elemAt (List.map encS x0) (Int.toNat x5)) 0)) == (dStr (cellAt (elemAt (List.map encS x1) (Int.toNat x5)) 0)))) (
      (some (.ret [.d (.bool false)] [] []))) (
     R24_4 (C24 Γ) Λ2 J (List.map encS x0) (List.map encS x1) (IntKind.wrap .i64 (x5 + 1)))) none) none) (
  (some (.ret [.d (.bool true)] [] []))) := by kernel_rfl
abbrev X24 : CFun := C24 (callG SE good)
theorem Cr24 : C24 (callG SE good) = bindC (callG SE good) := by unfold C24; rfl
noncomputable abbrev Q24_4 (a0 : (List (List D))) (a1 : (List (List D))) (a2 : Int) : Res := R24_4 X24 (lam2 SE (callG SE good) (SE.hl 24) (SE.hr 24)) (J0 SE X24) a0 a1 a2
theorem brokerref01_Same_l4_ok : ∀ (fu : Nat) (x0 : (List Str)) (x1 : (List Str)) (x5 : Int), Le (Option.map brokerref01_Same_out (brokerref01_Same_l4 fu x0 x1 x5)) (Q24_4 (List.map encS x0) (List.map encS x1) x5) := by
  intro fu
  induction fu with
  | zero => intros; exact le_none
  | succ fu ih =>
    intro x0 x1 x5
    refine Le.trans ?_ (le_of_eq ((lab_realC Cr24).trans (T24_4 _ _ _  x0 x1 x5)).symm)
    unfold brokerref01_Same_l4
    refine le_cond (by simp only [EN]) (fun _ => ?_) (fun _ => ?_)
    · skip
      refine le_cond (by simp only [EN]) (fun _ => ?_) (fun _ => le_none)
      refine le_cond (by simp only [EN]) (fun _ => ?_) (fun _ => le_none)
      refine le_cond (by simp only [EN]) (fun _ => ?_) (fun _ => ?_)
      · skip
        exact le_ret (by first | rfl | (simp only [EN, brokerref01_Same_out]; done) | (simp only [EN, brokerref01_Same_out]; rfl))
      · skip
        exact ih x0 x1 (IntKind.wrap .i64 (x5 + 1))
    · skip
      exact le_ret (by first | rfl | (simp only [EN, brokerref01_Same_out]; done) | (simp only [EN, brokerref01_Same_out]; rfl))
theorem brokerref01_Same_ok (p0 : (List Str)) (p1 : (List Str)) : Le (Option.map brokerref01_Same_out (brokerref01_Same p0 p1)) (callW SE 24 [.d (.sl [.str] (List.map encS p0)), .d (.sl [.str] (List.map encS p1))] [] []) := by
  refine le_bodyC Cr24 rfl ?_
  refine Le.trans ?_ (le_of_eq (T24 _ _ _  p0 p1).symm)
  unfold brokerref01_Same
  refine le_cond (by simp only [EN]) (fun _ => ?_) (fun _ => ?_)
  · skip
    exact le_ret (by first | rfl | (simp only [EN, brokerref01_Same_out]; done) | (simp only [EN, brokerref01_Same_out]; rfl))
  · skip
    exact brokerref01_Same_l4_ok fuel p0 p1 0
def C25 (Γ : Fun)  : CFun := bindC Γ
def R25_4 (C : CFun) (Λ2 J : Lam) (a0 : (List (List D))) (a1 : (List (List D))) (a2 : Int) : Res := lab SE C Λ2 J 25 0 [1, 1, 0, 1, 0] (stoOf [(0, .d (.sl [.int .i64] a0)), (1, .d (.sl [.int .i64] a1)), (5, .d (.int .i64 a2))] [] [] [] [])
theorem T25 (Γ : Fun)  (Λ2 J : Lam) (p0 : (List Int)) (p1 : (List Int)) : bodyC SE (C25 Γ) Λ2 J 25 [.d (.sl [.int .i64] (List.map (encI .i64) p0)), .d (.sl [.int .i64] (List.map (encI .i64) p1))] [] [] =
  cond ((List.length (List.map (encI .i64) p0) : Int) != (List.length (List.map (encI .i64) p1) : Int)) (
   (some (.ret [.d (.bool false)] [] []))) (
  R25_4 (C25 Γ) Λ2 J (List.map (encI .i64) p0) (List.map (encI .i64) p1) 0) := by kernel_rfl
theorem T25_4 (Γ : Fun)  (Λ2 J : Lam) (x0 : (List Int)) (x1 : (List Int)) (x5 : Int) : labU SE (C25 Γ) Λ2 J 25 0 [1, 1, 0, 1, 0] (stoOf [(0, .d (.sl [.int .i64] (List.map (encI .i64) x0))), (1, .d (.sl [.int .i64] (List.map (encI .i64) x1))), (5, .d (.int .i64 x5))] [] [] [] []) =
  cond (decide (x5 < (List.length (List.map (encI .i64) x0) : Int))) (
   cond (decide (0 ≤ x5) && decide (x5 < (List.length (List.map (encI .i64) x0) : Int))) (
    cond (decide (0 ≤ x5) && decide (x5 < (List.length (List.map (encI .i64) x1) : Int))) (
     cond ((dInt (cellAt (elemAt (List.map (encI .i64) x0) (Int.toNat x5)) 0)) != (dInt (cellAt (elemAt (List.map (encI .i64) x1) (Int.toNat x5)) 0))) (
      (some (.ret [.d (.bool false)] [] []))) (
     R25_4 (C25 Γ) Λ2 J (List.map (encI .i64) x0) (List.map (encI .i64) x1) (IntKind.wrap .i64 (x5 + 1)))) none) none) (
  (some (.ret [.d (.bool true)] [] []))) := by kernel_rfl
abbrev X25 : CFun := C25 (callG SE good)
theorem Cr25 : C25 (callG SE good) = bindC (callG SE good) := by unfold C25; rfl
noncomputable abbrev Q25_4 (a0 : (List (List D))) (a1 : (List (List D))) (a2 : Int) : Res := R25_4 X25 (lam2 SE (callG SE good) (SE.hl 25) (SE.hr 25)) (J0 SE X25) a0 a1 a2
theorem brokerref06_SameNumbers_l4_ok : ∀ (fu : Nat) (x0 : (List Int)) (x1 : (List Int)) (x5 : Int), Le (Option.map brokerref06_SameNumbers_out (brokerref06_SameNumbers_l4 fu x0 x1 x5)) (Q25_4 (List.map (encI .i64) x0) (List.map (encI .i64) x1) x5) := by
  intro fu
  induction fu with
  | zero => intros; exact le_none
  | succ fu ih =>
    intro x0 x1 x5
    refine Le.trans ?_ (le_of_eq ((lab_realC Cr25).trans (T25_4 _ _ _  x0 x1 x5)).symm)
    unfold brokerref06_SameNumbers_l4
    refine le_cond (by simp only [EN]) (fun _ => ?_) (fun _ => ?_)
    · skip
      refine le_cond (by simp only [EN]) (fun _ => ?_) (fun _ => le_none)
      refine le_cond (by simp only [EN]) (fun _ => ?_) (fun _ => le_none)
      refine le_cond (by simp only [EN]) (fun _ => ?_) (fun _ => ?_)
      · skip
        exact le_ret (by first | rfl | (simp only [EN, brokerref06_SameNumbers_out]; done) | (simp only [EN, brokerref06_SameNumbers_out]; rfl))
      · skip
        exact ih x0 x1 (IntKind.wrap .i64 (x5 + 1))
    · skip
      exact le_ret (by first | rfl | (simp only [EN, brokerref06_SameNumbers_out]; done) | (simp only [EN, brokerref06_SameNumbers_out]; rfl))
theorem brokerref06_SameNumbers_ok (p0 : (List Int)) (p1 : (List Int)) : Le (Option.map brokerref06_SameNumbers_out (brokerref06_SameNumbers p0 p1)) (callW SE 25 [.d (.sl [.int .i64] (List.map (encI .i64) p0)), .d (.sl [.int .i64] (List.map (encI .i64) p1))] [] []) := by
  refine le_bodyC Cr25 rfl ?_
  refine Le.trans ?_ (le_of_eq (T25 _ _ _  p0 p1).symm)
  unfold brokerref06_SameNumbers
  refine le_cond (by simp only [EN]) (fun _ => ?_) (fun _ => ?_)
  · skip
    exact le_ret (by first | rfl | (simp only [EN, brokerref06_SameNumbers_out]; done) | (simp only [EN, brokerref06_SameNumbers_out]; rfl))
  · skip
    exact brokerref06_SameNumbers_l4_ok fuel p0 p1 0
def C13 (Γ : Fun) (γ21 : Gm (Bool)) (γ22 : Gm (Bool)) (γ23 : Gm (Bool)) (γ24 : Gm (Bool)) (γ25 : Gm (Bool)) : CFun := updC (updC (updC (updC (updC (bindC Γ) 21 brokerref05_Same_out γ21) 22 brokerref06_SameWill_out γ22) 23 brokerref06_SameSubs_out γ23) 24 brokerref01_Same_out γ24) 25 brokerref06_SameNumbers_out γ25
def R13_5 (C : CFun) (Λ2 J : Lam) (a0 : (List D)) (a1 : (List D)) : Res := lab SE C Λ2 J 13 0 [1, 1, 1, 0] (stoOf [(2, .ptr 1000000000 0), (3, .ptr 1000000001 0)] [⟨37, (List.map AV.d a0)⟩, ⟨37, (List.map AV.d a1)⟩] [] [] [])
def R13_3 (C : CFun) (Λ2 J : Lam) (a0 : (List D)) (a1 : (List D)) : Res := lab SE C Λ2 J 13 0 [1, 1, 0, 0] (stoOf [(2, .ptr 1000000000 0), (3, .ptr 1000000001 0)] [⟨37, (List.map AV.d a0)⟩, ⟨37, (List.map AV.d a1)⟩] [] [] [])
theorem T13 (Γ : Fun) (γ21 : Gm (Bool)) (γ22 : Gm (Bool)) (γ23 : Gm (Bool)) (γ24 : Gm (Bool)) (γ25 : Gm (Bool)) (Λ2 J : Lam) (p0 : api_Packet) (p1 : api_Packet) : bodyC SE (C13 Γ γ21 γ22 γ23 γ24 γ25) Λ2 J 13 [api_Packet.av p0, api_Packet.av p1] [] [] =
  cond (p0.Kind != p1.Kind) (
   (some (.ret [.d (.bool false)] [] []))) (
  cond (p0.ID != p1.ID) (
   (some (.ret [.d (.bool false)] [] []))) (
  cond (p0.Dup != p1.Dup) (
   (some (.ret [.d (.bool false)] [] []))) (
  γ21 [api_Message.av p0.Message, api_Message.av p1.Message] [] [] fun r0 =>
  cond (!r0) (
   (some (.ret [.d (.bool false)] [] []))) (
  cond (!(p0.Client == p1.Client)) (
   (some (.ret [.d (.bool false)] [] []))) (
  cond (!(p0.User == p1.User)) (
   (some (.ret [.d (.bool false)] [] []))) (
  R13_3 (C13 Γ γ21 γ22 γ23 γ24 γ25) Λ2 J (api_Packet.enc p0) (api_Packet.enc p1))))))) := by kernel_rfl
theorem T13_5 (Γ : Fun) (γ21 : Gm (Bool)) (γ22 : Gm (Bool)) (γ23 : Gm (Bool)) (γ24 : Gm (Bool)) (γ25 : Gm (Bool)) (Λ2 J : Lam) (b0 : api_Packet) (b1 : api_Packet) : labU SE (C13 Γ γ21 γ22 γ23 γ24 γ25) Λ2 J 13 0 [1, 1, 1, 0] (stoOf [(2, .ptr 1000000000 0), (3, .ptr 1000000001 0)] [⟨37, (List.map AV.d (api_Packet.enc b0))⟩, ⟨37, (List.map AV.d (api_Packet.enc b1))⟩] [] [] []) =
  cond (b0.Present == b1.Present) (
   cond (b0.Code == b1.Code) (
    γ23 [.d (.sl api_Sub.ks (List.map api_Sub.enc b0.Subs)), .d (.sl api_Sub.ks (List.map api_Sub.enc b1.Subs))] [] [] fun r2 =>
    cond r2 (
     γ24 [.d (.sl [.str] (List.map encS b0.Filters)), .d (.sl [.str] (List.map encS b1.Filters))] [] [] fun r3 =>
     cond r3 (
      γ25 [.d (.sl [.int .i64] (List.map (encI .i64) b0.Codes)), .d (.sl [.int .i64] (List.map (encI .i64) b1.Codes))] [] [] fun r4 =>
      (some (.ret [.d (.bool r4)] [] []))) (
     (some (.ret [.d (.bool false)] [] [])))) (
    (some (.ret [.d (.bool false)] [] [])))) (
   (some (.ret [.d (.bool false)] [] [])))) (
  (some (.ret [.d (.bool false)] [] []))) := by kernel_rfl
theorem T13_3 (Γ : Fun) (γ21 : Gm (Bool)) (γ22 : Gm (Bool)) (γ23 : Gm (Bool)) (γ24 : Gm (Bool)) (γ25 : Gm (Bool)) (Λ2 J : Lam) (b0 : api_Packet) (b1 : api_Packet) : labU SE (C13 Γ γ21 γ22 γ23 γ24 γ25) Λ2 J 13 0 [1, 1, 0, 0] (stoOf [(2, .ptr 1000000000 0), (3, .ptr 1000000001 0)] [⟨37, (List.map AV.d (api_Packet.enc b0))⟩, ⟨37, (List.map AV.d (api_Packet.enc b1))⟩] [] [] []) =
  cond (b0.Clean != b1.Clean) (
   (some (.ret [.d (.bool false)] [] []))) (
  cond (b0.Keep != b1.Keep) (
   (some (.ret [.d (.bool false)] [] []))) (
  cond (b0.Expiry != b1.Expiry) (
   (some (.ret [.d (.bool false)] [] []))) (
  cond (b0.Window != b1.Window) (
   (some (.ret [.d (.bool false)] [] []))) (
  γ22 [api_Will.av b0.Will, api_Will.av b1.Will] [] [] fun r1 =>
  cond (!r1) (
   (some (.ret [.d (.bool false)] [] []))) (
  R13_5 (C13 Γ γ21 γ22 γ23 γ24 γ25) Λ2 J (api_Packet.enc b0) (api_Packet.enc b1)))))) := by kernel_rfl
abbrev X13 : CFun := C13 (callG SE good) (callT SE good 21 brokerref05_Same_out) (callT SE good 22 brokerref06_SameWill_out) (callT SE good 23 brokerref06_SameSubs_out) (callT SE good 24 brokerref01_Same_out) (callT SE good 25 brokerref06_SameNumbers_out)
theorem Cr13 : C13 (callG SE good) (callT SE good 21 brokerref05_Same_out) (callT SE good 22 brokerref06_SameWill_out) (callT SE good 23 brokerref06_SameSubs_out) (callT SE good 24 brokerref01_Same_out) (callT SE good 25 brokerref06_SameNumbers_out) = bindC (callG SE good) := by unfold C13; rw [updC_real (fun _ h => h), updC_real (fun _ h => h), updC_real (fun _ h => h), updC_real (fun _ h => h), updC_real (fun _ h => h)]
noncomputable abbrev Q13_5 (a0 : (List D)) (a1 : (List D)) : Res := R13_5 X13 (lam2 SE (callG SE good) (SE.hl 13) (SE.hr 13)) (J0 SE X13) a0 a1
noncomputable abbrev Q13_3 (a0 : (List D)) (a1 : (List D)) : Res := R13_3 X13 (lam2 SE (callG SE good) (SE.hl 13) (SE.hr 13)) (J0 SE X13) a0 a1
theorem brokerref06_Same_j5_ok (b0 : api_Packet) (b1 : api_Packet) : Le (Option.map brokerref06_Same_out (brokerref06_Same_j5 b0 b1)) (Q13_5 (api_Packet.enc b0) (api_Packet.enc b1)) := by
  refine Le.trans ?_ (le_of_eq ((lab_realC Cr13).trans (T13_5 _ _ _ _ _ _ _ _  b0 b1)).symm)
  unfold brokerref06_Same_j5
  refine le_cond rfl (fun _ => ?_) (fun _ => ?_)
  · skip
    refine le_cond rfl (fun _ => ?_) (fun _ => ?_)
    · skip
      refine le_call (good := good) (fun y => ⟨y, rfl⟩) brokerref06_SameSubs_inj (brokerref06_SameSubs_ok b0.Subs b1.Subs) (fun r2 _ => ?_)
      refine le_cond rfl (fun _ => ?_) (fun _ => ?_)
      · skip
        refine le_call (good := good) (fun y => ⟨y, rfl⟩) brokerref01_Same_inj (brokerref01_Same_ok b0.Filters b1.Filters) (fun r3 _ => ?_)
        refine le_cond rfl (fun _ => ?_) (fun _ => ?_)
        · skip
          refine le_call (good := good) (fun y => ⟨y, rfl⟩) brokerref06_SameNumbers_inj (brokerref06_SameNumbers_ok b0.Codes b1.Codes) (fun r4 _ => ?_)
          exact le_ret (by first | rfl | (simp only [EN, brokerref06_Same_out]; done) | (simp only [EN, brokerref06_Same_out]; rfl))
        · skip
          exact le_ret (by first | rfl | (simp only [EN, brokerref06_Same_out]; done) | (simp only [EN, brokerref06_Same_out]; rfl))
      · skip
        exact le_ret (by first | rfl | (simp only [EN, brokerref06_Same_out]; done) | (simp only [EN, brokerref06_Same_out]; rfl))
    · skip
      exact le_ret (by first | rfl | (simp only [EN, brokerref06_Same_out]; done) | (simp only [EN, brokerref06_Same_out]; rfl))
  · skip
    exact le_ret (by first | rfl | (simp only [EN, brokerref06_Same_out]; done) | (simp only [EN, brokerref06_Same_out]; rfl))
theorem brokerref06_Same_j3_ok (b0 : api_Packet) (b1 : api_Packet) : Le (Option.map brokerref06_Same_out (brokerref06_Same_j3 b0 b1)) (Q13_3 (api_Packet.enc b0) (api_Packet.enc b1)) := by
  refine Le.trans ?_ (le_of_eq ((lab_realC Cr13).trans (T13_3 _ _ _ _ _ _ _ _  b0 b1)).symm)
  unfold brokerref06_Same_j3
  refine le_cond rfl (fun _ => ?_) (fun _ => ?_)
  · skip
    exact le_ret (by first | rfl | (simp only [EN, brokerref06_Same_out]; done) | (simp only [EN, brokerref06_Same_out]; rfl))
  · skip
    refine le_cond rfl (fun _ => ?_) (fun _ => ?_)
    · skip
      exact le_ret (by first | rfl | (simp only [EN, brokerref06_Same_out]; done) | (simp only [EN, brokerref06_Same_out]; rfl))
    · skip
      refine le_cond rfl (fun _ => ?_) (fun _ => ?_)
      · skip
        exact le_ret (by first | rfl | (simp only [EN, brokerref06_Same_out]; done) | (simp only [EN, brokerref06_Same_out]; rfl))
      · skip
        refine le_cond rfl (fun _ => ?_) (fun _ => ?_)
        · skip
          exact le_ret (by first | rfl | (simp only [EN, brokerref06_Same_out]; done) | (simp only [EN, brokerref06_Same_out]; rfl))
        · skip
          refine le_call (good := good) (fun y => ⟨y, rfl⟩) brokerref06_SameWill_inj (brokerref06_SameWill_ok b0.Will b1.Will) (fun r1 _ => ?_)
          refine le_cond rfl (fun _ => ?_) (fun _ => ?_)
          · skip
            exact le_ret (by first | rfl | (simp only [EN, brokerref06_Same_out]; done) | (simp only [EN, brokerref06_Same_out]; rfl))
          · skip
            exact brokerref06_Same_j5_ok b0 b1
theorem brokerref06_Same_ok (p0 : api_Packet) (p1 : api_Packet) : Le (Option.map brokerref06_Same_out (brokerref06_Same p0 p1)) (callW SE 13 [api_Packet.av p0, api_Packet.av p1] [] []) := by
  refine le_bodyC Cr13 rfl ?_
  refine Le.trans ?_ (le_of_eq (T13 _ _ _ _ _ _ _ _  p0 p1).symm)
  unfold brokerref06_Same
  refine le_cond rfl (fun _ => ?_) (fun _ => ?_)
  · skip
    exact le_ret (by first | rfl | (simp only [EN, brokerref06_Same_out]; done) | (simp only [EN, brokerref06_Same_out]; rfl))
  · skip
    refine le_cond rfl (fun _ => ?_) (fun _ => ?_)
    · skip
      exact le_ret (by first | rfl | (simp only [EN, brokerref06_Same_out]; done) | (simp only [EN, brokerref06_Same_out]; rfl))
    · skip
      refine le_cond rfl (fun _ => ?_) (fun _ => ?_)
      · skip
        exact le_ret (by first | rfl | (simp only [EN, brokerref06_Same_out]; done) | (simp only [EN, brokerref06_Same_out]; rfl))
      · skip
        refine le_call (good := good) (fun y => ⟨y, rfl⟩) brokerref05_Same_inj (brokerref05_Same_ok p0.Message p1.Message) (fun r0 _ => ?_)
        refine le_cond rfl (fun _ => ?_) (fun _ => ?_)
        · skip
          exact le_ret (by first | rfl | (simp only [EN, brokerref06_Same_out]; done) | (simp only [EN, brokerref06_Same_out]; rfl))
        · skip
          refine le_cond rfl (fun _ => ?_) (fun _ => ?_)
          · skip
            exact le_ret (by first | rfl | (simp only [EN, brokerref06_Same_out]; done) | (simp only [EN, brokerref06_Same_out]; rfl))
          · skip
            refine le_cond rfl (fun _ => ?_) (fun _ => ?_)
            · skip
              exact le_ret (by first | rfl | (simp only [EN, brokerref06_Same_out]; done) | (simp only [EN, brokerref06_Same_out]; rfl))
            · skip
              exact brokerref06_Same_j3_ok p0 p1
end Te
end PX
