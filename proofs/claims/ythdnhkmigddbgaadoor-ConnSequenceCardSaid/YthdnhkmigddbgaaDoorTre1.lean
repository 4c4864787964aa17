import Derived.Test.YthdnhkmigddbgaaDoorTre0
set_option linter.unusedVariables false
set_option linter.unusedSimpArgs false
set_option linter.unusedVariables false
set_option linter.unusedSimpArgs false
set_option maxRecDepth 100000
noncomputable section
namespace PX
open Go
open Md
namespace Te
def C48 (Γ : Fun) (γ65 : Gm (Int)) (γ66 : Gm (Bool × Bool)) : CFun := updC (updC (bindC Γ) 65 packet_counted_out γ65) 66 packet_wanted_out γ66
def R48_5 (C : CFun) (Λ2 J : Lam) (a0 : (List (List D))) (a1 : Int) (a2 : Int) : Res := lab SE C Λ2 J 48 0 [1, 1, 0, 1, 0] (stoOf [(18, .d (.sl [.str] a0)), (19, .d (.int .i64 a1)), (20, .d (.int .i64 a2))] [] [] [] [])
theorem T48 (Γ : Fun) (γ65 : Gm (Int)) (γ66 : Gm (Bool × Bool)) (Λ2 J : Lam) (p0 : api_Packet) : bodyC SE (C48 Γ γ65 γ66) Λ2 J 48 [api_Packet.av p0] [] [] =
  γ65 [.d (.int .i64 p0.ID), .d (.int .i64 (List.length (List.map encS p0.Filters) : Int))] [] [] fun r0 =>
  cond (r0 != 0) (
   (some (.ret [.d (.int .i64 r0)] [] []))) (
  R48_5 (C48 Γ γ65 γ66) Λ2 J (List.map encS p0.Filters) (List.length (List.map encS p0.Filters) : Int) 0) := by kernel_rfl
theorem T48_5 (Γ : Fun) (γ65 : Gm (Int)) (γ66 : Gm (Bool × Bool)) (Λ2 J : Lam) (x18 : (List Str)) (x19 : Int) (x20 : Int) : labU SE (C48 Γ γ65 γ66) Λ2 J 48 0 [1, 1, 0, 1, 0] (stoOf [(18, .d (.sl [.str] (List.map encS x18))), (19, .d (.int .i64 x19)), (20, .d (.int .i64 x20))] [] [] [] []) =
  cond (decide (x20 < x19)) (
   cond (decide (0 ≤ x20) && decide (x20 < (List.length (List.map encS x18) : Int))) (
    γ66 [.d (.str (dStr (cellAt (elemAt (List.map encS x18) (Int.toNat x20)) 0)))] [] [] fun r1 =>
    cond (!r1.1) (
     (some (.ret [.d (.int .i64 13)] [] []))) (
    R48_5 (C48 Γ γ65 γ66) Λ2 J (List.map encS x18) x19 (IntKind.wrap .i64 (x20 + 1)))) none) (
  (some (.ret [.d (.int .i64 0)] [] []))) := by kernel_rfl
abbrev X48 : CFun := C48 (callG SE good) (callT SE good 65 packet_counted_out) (callT SE good 66 packet_wanted_out)
theorem Cr48 : C48 (callG SE good) (callT SE good 65 packet_counted_out) (callT SE good 66 packet_wanted_out) = bindC (callG SE good) := by unfold C48; rw [updC_real (fun _ h => h), updC_real (fun _ h => h)]
noncomputable abbrev Q48_5 (a0 : (List (List D))) (a1 : Int) (a2 : Int) : Res := R48_5 X48 (lam2 SE (callG SE good) (SE.hl 48) (SE.hr 48)) (J0 SE X48) a0 a1 a2
theorem packet_unsubscribe_l5_ok : ∀ (fu : Nat) (x18 : (List Str)) (x19 : Int) (x20 : Int), Le (Option.map packet_unsubscribe_out (packet_unsubscribe_l5 fu x18 x19 x20)) (Q48_5 (List.map encS x18) x19 x20) := by
  intro fu
  induction fu with
  | zero => intros; exact le_none
  | succ fu ih =>
    intro x18 x19 x20
    refine Le.trans ?_ (le_of_eq ((lab_realC Cr48).trans (T48_5 _ _ _ _ _  x18 x19 x20)).symm)
    unfold packet_unsubscribe_l5
    refine le_cond rfl (fun _ => ?_) (fun _ => ?_)
    · skip
      refine le_cond (by simp only [EN]) (fun _ => ?_) (fun _ => le_none)
      refine le_call (good := good) (fun y => ⟨y, rfl⟩) packet_wanted_inj (by first | (simp only [EN]; exact packet_wanted_ok (List.getD x18 (Int.toNat x20) default)) | exact packet_wanted_ok (List.getD x18 (Int.toNat x20) default)) (fun r1 _ => ?_)
      refine le_cond rfl (fun _ => ?_) (fun _ => ?_)
      · skip
        exact le_ret (by first | rfl | (simp only [EN, packet_unsubscribe_out]; done) | (simp only [EN, packet_unsubscribe_out]; rfl))
      · skip
        exact ih x18 x19 (IntKind.wrap .i64 (x20 + 1))
    · skip
      exact le_ret (by first | rfl | (simp only [EN, packet_unsubscribe_out]; done) | (simp only [EN, packet_unsubscribe_out]; rfl))
theorem packet_unsubscribe_ok (p0 : api_Packet) : Le (Option.map packet_unsubscribe_out (packet_unsubscribe p0)) (callW SE 48 [api_Packet.av p0] [] []) := by
  refine le_bodyC Cr48 ?_
  refine Le.trans ?_ (le_of_eq (T48 _ _ _ _ _  p0).symm)
  unfold packet_unsubscribe
  refine le_call (good := good) (fun y => ⟨y, rfl⟩) packet_counted_inj (by first | (simp only [EN]; exact packet_counted_ok p0.ID (List.length p0.Filters : Int)) | exact packet_counted_ok p0.ID (List.length p0.Filters : Int)) (fun r0 _ => ?_)
  refine le_cond rfl (fun _ => ?_) (fun _ => ?_)
  · skip
    exact le_ret (by first | rfl | (simp only [EN, packet_unsubscribe_out]; done) | (simp only [EN, packet_unsubscribe_out]; rfl))
  · skip
    first | (simp only [EN]; exact packet_unsubscribe_l5_ok fuel p0.Filters (List.length p0.Filters : Int) 0) | exact packet_unsubscribe_l5_ok fuel p0.Filters (List.length p0.Filters : Int) 0
def C25 (Γ : Fun) (γ39 : Gm (Bool)) (γ41 : Gm (api_Packet)) (γ40 : Gm (Bool)) (γ42 : Gm (Int)) (γ43 : Gm (Bool)) (γ44 : Gm (Int)) (γ45 : Gm (Int)) (γ46 : Gm (Int)) (γ47 : Gm (Int)) (γ48 : Gm (Int)) : CFun := updC (updC (updC (updC (updC (updC (updC (updC (updC (updC (bindC Γ) 39 packet_is_out γ39) 41 packet_used_out γ41) 40 packet_Same_out γ40) 42 packet_connect_out γ42) 43 packet_code_out γ43) 44 packet_publish_out γ44) 45 packet_ident_out γ45) 46 packet_subscribe_out γ46) 47 packet_codes_out γ47) 48 packet_unsubscribe_out γ48
theorem T25 (Γ : Fun) (γ39 : Gm (Bool)) (γ41 : Gm (api_Packet)) (γ40 : Gm (Bool)) (γ42 : Gm (Int)) (γ43 : Gm (Bool)) (γ44 : Gm (Int)) (γ45 : Gm (Int)) (γ46 : Gm (Int)) (γ47 : Gm (Int)) (γ48 : Gm (Int)) (Λ2 J : Lam) (p0 : api_Packet) : bodyC SE (C25 Γ γ39 γ41 γ40 γ42 γ43 γ44 γ45 γ46 γ47 γ48) Λ2 J 25 [api_Packet.av p0] [] [] =
  γ39 [.d (.int .i64 p0.Kind), .d (.int .i64 1), .d (.int .i64 14)] [] [] fun r0 =>
  cond (!r0) (
   (some (.ret [.d (.int .i64 10)] [] []))) (
  γ41 [api_Packet.av p0] [] [] fun r1 =>
  γ40 [api_Packet.av p0, api_Packet.av r1] [] [] fun r2 =>
  cond (!r2) (
   (some (.ret [.d (.int .i64 28)] [] []))) (
  cond (p0.Kind == 1) (
   γ42 [api_Packet.av p0] [] [] fun r3 =>
   (some (.ret [.d (.int .i64 r3)] [] []))) (
  cond (p0.Kind == 2) (
   γ43 [.d (.int .i64 p0.Code)] [] [] fun r4 =>
   cond (!r4) (
    (some (.ret [.d (.int .i64 1)] [] []))) (
   cond p0.Present (
    cond (p0.Code != 0) (
     (some (.ret [.d (.int .i64 28)] [] []))) (
    (some (.ret [.d (.int .i64 0)] [] [])))) (
   (some (.ret [.d (.int .i64 0)] [] []))))) (
  cond (p0.Kind == 14) (
   γ43 [.d (.int .i64 p0.Code)] [] [] fun r5 =>
   cond (!r5) (
    (some (.ret [.d (.int .i64 1)] [] []))) (
   cond p0.Present (
    cond (p0.Code != 0) (
     (some (.ret [.d (.int .i64 28)] [] []))) (
    (some (.ret [.d (.int .i64 0)] [] [])))) (
   (some (.ret [.d (.int .i64 0)] [] []))))) (
  cond (p0.Kind == 3) (
   γ44 [api_Packet.av p0] [] [] fun r6 =>
   (some (.ret [.d (.int .i64 r6)] [] []))) (
  cond (p0.Kind == 4) (
   γ45 [.d (.int .i64 p0.ID)] [] [] fun r7 =>
   (some (.ret [.d (.int .i64 r7)] [] []))) (
  cond (p0.Kind == 5) (
   γ45 [.d (.int .i64 p0.ID)] [] [] fun r8 =>
   (some (.ret [.d (.int .i64 r8)] [] []))) (
  cond (p0.Kind == 6) (
   γ45 [.d (.int .i64 p0.ID)] [] [] fun r9 =>
   (some (.ret [.d (.int .i64 r9)] [] []))) (
  cond (p0.Kind == 7) (
   γ45 [.d (.int .i64 p0.ID)] [] [] fun r10 =>
   (some (.ret [.d (.int .i64 r10)] [] []))) (
  cond (p0.Kind == 8) (
   γ46 [api_Packet.av p0] [] [] fun r11 =>
   (some (.ret [.d (.int .i64 r11)] [] []))) (
  cond (p0.Kind == 9) (
   γ47 [api_Packet.av p0] [] [] fun r12 =>
   (some (.ret [.d (.int .i64 r12)] [] []))) (
  cond (p0.Kind == 11) (
   γ47 [api_Packet.av p0] [] [] fun r13 =>
   (some (.ret [.d (.int .i64 r13)] [] []))) (
  cond (p0.Kind == 10) (
   γ48 [api_Packet.av p0] [] [] fun r14 =>
   (some (.ret [.d (.int .i64 r14)] [] []))) (
  (some (.ret [.d (.int .i64 0)] [] [])))))))))))))))) := by kernel_rfl
abbrev X25 : CFun := C25 (callG SE good) (callT SE good 39 packet_is_out) (callT SE good 41 packet_used_out) (callT SE good 40 packet_Same_out) (callT SE good 42 packet_connect_out) (callT SE good 43 packet_code_out) (callT SE good 44 packet_publish_out) (callT SE good 45 packet_ident_out) (callT SE good 46 packet_subscribe_out) (callT SE good 47 packet_codes_out) (callT SE good 48 packet_unsubscribe_out)
theorem Cr25 : C25 (callG SE good) (callT SE good 39 packet_is_out) (callT SE good 41 packet_used_out) (callT SE good 40 packet_Same_out) (callT SE good 42 packet_connect_out) (callT SE good 43 packet_code_out) (callT SE good 44 packet_publish_out) (callT SE good 45 packet_ident_out) (callT SE good 46 packet_subscribe_out) (callT SE good 47 packet_codes_out) (callT SE good 48 packet_unsubscribe_out) = bindC (callG SE good) := by unfold C25; rw [updC_real (fun _ h => h), updC_real (fun _ h => h), updC_real (fun _ h => h), updC_real (fun _ h => h), updC_real (fun _ h => h), updC_real (fun _ h => h), updC_real (fun _ h => h), updC_real (fun _ h => h), updC_real (fun _ h => h), updC_real (fun _ h => h)]
theorem packet_Check_ok (p0 : api_Packet) : Le (Option.map packet_Check_out (packet_Check p0)) (callW SE 25 [api_Packet.av p0] [] []) := by
  refine le_bodyC Cr25 ?_
  refine Le.trans ?_ (le_of_eq (T25 _ _ _ _ _ _ _ _ _ _ _ _ _  p0).symm)
  unfold packet_Check
  refine le_call (good := good) (fun y => ⟨y, rfl⟩) packet_is_inj (packet_is_ok p0.Kind 1 14) (fun r0 _ => ?_)
  refine le_cond rfl (fun _ => ?_) (fun _ => ?_)
  · skip
    exact le_ret (by first | rfl | (simp only [EN, packet_Check_out]; done) | (simp only [EN, packet_Check_out]; rfl))
  · skip
    refine le_call (good := good) (fun y => ⟨y, rfl⟩) packet_used_inj (packet_used_ok p0) (fun r1 _ => ?_)
    refine le_call (good := good) (fun y => ⟨y, rfl⟩) packet_Same_inj (packet_Same_ok p0 r1) (fun r2 _ => ?_)
    refine le_cond rfl (fun _ => ?_) (fun _ => ?_)
    · skip
      exact le_ret (by first | rfl | (simp only [EN, packet_Check_out]; done) | (simp only [EN, packet_Check_out]; rfl))
    · skip
      refine le_cond rfl (fun _ => ?_) (fun _ => ?_)
      · skip
        refine le_call (good := good) (fun y => ⟨y, rfl⟩) packet_connect_inj (packet_connect_ok p0) (fun r3 _ => ?_)
        exact le_ret (by first | rfl | (simp only [EN, packet_Check_out]; done) | (simp only [EN, packet_Check_out]; rfl))
      · skip
        refine le_cond rfl (fun _ => ?_) (fun _ => ?_)
        · skip
          refine le_call (good := good) (fun y => ⟨y, rfl⟩) packet_code_inj (packet_code_ok p0.Code) (fun r4 _ => ?_)
          refine le_cond rfl (fun _ => ?_) (fun _ => ?_)
          · skip
            exact le_ret (by first | rfl | (simp only [EN, packet_Check_out]; done) | (simp only [EN, packet_Check_out]; rfl))
          · skip
            refine le_cond rfl (fun _ => ?_) (fun _ => ?_)
            · skip
              refine le_cond rfl (fun _ => ?_) (fun _ => ?_)
              · skip
                exact le_ret (by first | rfl | (simp only [EN, packet_Check_out]; done) | (simp only [EN, packet_Check_out]; rfl))
              · skip
                exact le_ret (by first | rfl | (simp only [EN, packet_Check_out]; done) | (simp only [EN, packet_Check_out]; rfl))
            · skip
              exact le_ret (by first | rfl | (simp only [EN, packet_Check_out]; done) | (simp only [EN, packet_Check_out]; rfl))
        · skip
          refine le_cond rfl (fun _ => ?_) (fun _ => ?_)
          · skip
            refine le_call (good := good) (fun y => ⟨y, rfl⟩) packet_code_inj (packet_code_ok p0.Code) (fun r5 _ => ?_)
            refine le_cond rfl (fun _ => ?_) (fun _ => ?_)
            · skip
              exact le_ret (by first | rfl | (simp only [EN, packet_Check_out]; done) | (simp only [EN, packet_Check_out]; rfl))
            · skip
              refine le_cond rfl (fun _ => ?_) (fun _ => ?_)
              · skip
                refine le_cond rfl (fun _ => ?_) (fun _ => ?_)
                · skip
                  exact le_ret (by first | rfl | (simp only [EN, packet_Check_out]; done) | (simp only [EN, packet_Check_out]; rfl))
                · skip
                  exact le_ret (by first | rfl | (simp only [EN, packet_Check_out]; done) | (simp only [EN, packet_Check_out]; rfl))
              · skip
                exact le_ret (by first | rfl | (simp only [EN, packet_Check_out]; done) | (simp only [EN, packet_Check_out]; rfl))
          · skip
            refine le_cond rfl (fun _ => ?_) (fun _ => ?_)
            · skip
              refine le_call (good := good) (fun y => ⟨y, rfl⟩) packet_publish_inj (packet_publish_ok p0) (fun r6 _ => ?_)
              exact le_ret (by first | rfl | (simp only [EN, packet_Check_out]; done) | (simp only [EN, packet_Check_out]; rfl))
            · skip
              refine le_cond rfl (fun _ => ?_) (fun _ => ?_)
              · skip
                refine le_call (good := good) (fun y => ⟨y, rfl⟩) packet_ident_inj (packet_ident_ok p0.ID) (fun r7 _ => ?_)
                exact le_ret (by first | rfl | (simp only [EN, packet_Check_out]; done) | (simp only [EN, packet_Check_out]; rfl))
              · skip
                refine le_cond rfl (fun _ => ?_) (fun _ => ?_)
                · skip
                  refine le_call (good := good) (fun y => ⟨y, rfl⟩) packet_ident_inj (packet_ident_ok p0.ID) (fun r8 _ => ?_)
                  exact le_ret (by first | rfl | (simp only [EN, packet_Check_out]; done) | (simp only [EN, packet_Check_out]; rfl))
                · skip
                  refine le_cond rfl (fun _ => ?_) (fun _ => ?_)
                  · skip
                    refine le_call (good := good) (fun y => ⟨y, rfl⟩) packet_ident_inj (packet_ident_ok p0.ID) (fun r9 _ => ?_)
                    exact le_ret (by first | rfl | (simp only [EN, packet_Check_out]; done) | (simp only [EN, packet_Check_out]; rfl))
                  · skip
                    refine le_cond rfl (fun _ => ?_) (fun _ => ?_)
                    · skip
                      refine le_call (good := good) (fun y => ⟨y, rfl⟩) packet_ident_inj (packet_ident_ok p0.ID) (fun r10 _ => ?_)
                      exact le_ret (by first | rfl | (simp only [EN, packet_Check_out]; done) | (simp only [EN, packet_Check_out]; rfl))
                    · skip
                      refine le_cond rfl (fun _ => ?_) (fun _ => ?_)
                      · skip
                        refine le_call (good := good) (fun y => ⟨y, rfl⟩) packet_subscribe_inj (packet_subscribe_ok p0) (fun r11 _ => ?_)
                        exact le_ret (by first | rfl | (simp only [EN, packet_Check_out]; done) | (simp only [EN, packet_Check_out]; rfl))
                      · skip
                        refine le_cond rfl (fun _ => ?_) (fun _ => ?_)
                        · skip
                          refine le_call (good := good) (fun y => ⟨y, rfl⟩) packet_codes_inj (packet_codes_ok p0) (fun r12 _ => ?_)
                          exact le_ret (by first | rfl | (simp only [EN, packet_Check_out]; done) | (simp only [EN, packet_Check_out]; rfl))
                        · skip
                          refine le_cond rfl (fun _ => ?_) (fun _ => ?_)
                          · skip
                            refine le_call (good := good) (fun y => ⟨y, rfl⟩) packet_codes_inj (packet_codes_ok p0) (fun r13 _ => ?_)
                            exact le_ret (by first | rfl | (simp only [EN, packet_Check_out]; done) | (simp only [EN, packet_Check_out]; rfl))
                          · skip
                            refine le_cond rfl (fun _ => ?_) (fun _ => ?_)
                            · skip
                              refine le_call (good := good) (fun y => ⟨y, rfl⟩) packet_unsubscribe_inj (packet_unsubscribe_ok p0) (fun r14 _ => ?_)
                              exact le_ret (by first | rfl | (simp only [EN, packet_Check_out]; done) | (simp only [EN, packet_Check_out]; rfl))
                            · skip
                              exact le_ret (by first | rfl | (simp only [EN, packet_Check_out]; done) | (simp only [EN, packet_Check_out]; rfl))
def C49 (Γ : Fun) (γ39 : Gm (Bool)) : CFun := updC (bindC Γ) 39 packet_is_out γ39
theorem T49 (Γ : Fun) (γ39 : Gm (Bool)) (Λ2 J : Lam) (p0 : Int) : bodyC SE (C49 Γ γ39) Λ2 J 49 [.d (.int .i64 p0)] [] [] =
  γ39 [.d (.int .i64 p0), .d (.int .i64 3), .d (.int .i64 7)] [] [] fun r0 =>
  cond r0 (
   (some (.ret [.d (.bool true)] [] []))) (
  (some (.ret [.d (.bool (p0 == 14))] [] []))) := by kernel_rfl
abbrev X49 : CFun := C49 (callG SE good) (callT SE good 39 packet_is_out)
theorem Cr49 : C49 (callG SE good) (callT SE good 39 packet_is_out) = bindC (callG SE good) := by unfold C49; rw [updC_real (fun _ h => h)]
theorem packet_both_ok (p0 : Int) : Le (Option.map packet_both_out (packet_both p0)) (callW SE 49 [.d (.int .i64 p0)] [] []) := by
  refine le_bodyC Cr49 ?_
  refine Le.trans ?_ (le_of_eq (T49 _ _ _ _  p0).symm)
  unfold packet_both
  refine le_call (good := good) (fun y => ⟨y, rfl⟩) packet_is_inj (packet_is_ok p0 3 7) (fun r0 _ => ?_)
  refine le_cond rfl (fun _ => ?_) (fun _ => ?_)
  · skip
    exact le_ret (by first | rfl | (simp only [EN, packet_both_out]; done) | (simp only [EN, packet_both_out]; rfl))
  · skip
    exact le_ret (by first | rfl | (simp only [EN, packet_both_out]; done) | (simp only [EN, packet_both_out]; rfl))
def C26 (Γ : Fun) (γ49 : Gm (Bool)) : CFun := updC (bindC Γ) 49 packet_both_out γ49
theorem T26 (Γ : Fun) (γ49 : Gm (Bool)) (Λ2 J : Lam) (p0 : Int) : bodyC SE (C26 Γ γ49) Λ2 J 26 [.d (.int .i64 p0)] [] [] =
  γ49 [.d (.int .i64 p0)] [] [] fun r0 =>
  cond r0 (
   (some (.ret [.d (.bool true)] [] []))) (
  cond (p0 == 1) (
   (some (.ret [.d (.bool true)] [] []))) (
  cond (p0 == 8) (
   (some (.ret [.d (.bool true)] [] []))) (
  cond (p0 == 10) (
   (some (.ret [.d (.bool true)] [] []))) (
  (some (.ret [.d (.bool (p0 == 12))] [] [])))))) := by kernel_rfl
abbrev X26 : CFun := C26 (callG SE good) (callT SE good 49 packet_both_out)
theorem Cr26 : C26 (callG SE good) (callT SE good 49 packet_both_out) = bindC (callG SE good) := by unfold C26; rw [updC_real (fun _ h => h)]
theorem packet_Client_ok (p0 : Int) : Le (Option.map packet_Client_out (packet_Client p0)) (callW SE 26 [.d (.int .i64 p0)] [] []) := by
  refine le_bodyC Cr26 ?_
  refine Le.trans ?_ (le_of_eq (T26 _ _ _ _  p0).symm)
  unfold packet_Client
  refine le_call (good := good) (fun y => ⟨y, rfl⟩) packet_both_inj (packet_both_ok p0) (fun r0 _ => ?_)
  refine le_cond rfl (fun _ => ?_) (fun _ => ?_)
  · skip
    exact le_ret (by first | rfl | (simp only [EN, packet_Client_out]; done) | (simp only [EN, packet_Client_out]; rfl))
  · skip
    refine le_cond rfl (fun _ => ?_) (fun _ => ?_)
    · skip
      exact le_ret (by first | rfl | (simp only [EN, packet_Client_out]; done) | (simp only [EN, packet_Client_out]; rfl))
    · skip
      refine le_cond rfl (fun _ => ?_) (fun _ => ?_)
      · skip
        exact le_ret (by first | rfl | (simp only [EN, packet_Client_out]; done) | (simp only [EN, packet_Client_out]; rfl))
      · skip
        refine le_cond rfl (fun _ => ?_) (fun _ => ?_)
        · skip
          exact le_ret (by first | rfl | (simp only [EN, packet_Client_out]; done) | (simp only [EN, packet_Client_out]; rfl))
        · skip
          exact le_ret (by first | rfl | (simp only [EN, packet_Client_out]; done) | (simp only [EN, packet_Client_out]; rfl))
def C21 (Γ : Fun)  : CFun := bindC Γ
theorem T21 (Γ : Fun)  (Λ2 J : Lam) (p0 : conn_end) : bodyC SE (C21 Γ) Λ2 J 21 [conn_end.av p0] [] [] =
  (some (.ret [.d (.bool (p0.Conn.State == 0))] [] [])) := by kernel_rfl
abbrev X21 : CFun := C21 (callG SE good)
theorem Cr21 : C21 (callG SE good) = bindC (callG SE good) := by unfold C21; rfl
theorem conn_end__fresh_ok (p0 : conn_end) : Le (Option.map conn_end__fresh_out (conn_end__fresh p0)) (callW SE 21 [conn_end.av p0] [] []) := by
  refine le_bodyC Cr21 ?_
  refine Le.trans ?_ (le_of_eq (T21 _ _ _  p0).symm)
  unfold conn_end__fresh
  exact le_ret (by first | rfl | (simp only [EN, conn_end__fresh_out]; done) | (simp only [EN, conn_end__fresh_out]; rfl))
def C15 (Γ : Fun) (γ25 : Gm (Int)) (γ26 : Gm (Bool)) (γ21 : Gm (Bool)) : CFun := updC (updC (updC (bindC Γ) 25 packet_Check_out γ25) 26 packet_Client_out γ26) 21 conn_end__fresh_out γ21
def R15_9 (C : CFun) (Λ2 J : Lam) (a0 : Int) (a1 : (List D)) (a2 : (List D)) (a3 : (List D)) : Res := lab SE C Λ2 J 15 0 [1, 1, 1, 1, 1, 0] (stoOf [(2, .d (.int .i64 a0)), (4, .ptr 1000000000 0), (6, .ptr 1000000001 0), (8, .ptr 1000000002 0)] [⟨39, (List.map AV.d a1)⟩, ⟨23, (List.map AV.d a2)⟩, ⟨49, (List.map AV.d a3)⟩] [] [] [])
theorem T15 (Γ : Fun) (γ25 : Gm (Int)) (γ26 : Gm (Bool)) (γ21 : Gm (Bool)) (Λ2 J : Lam) (p0 : api_Conn) (p1 : api_Packet) (p2 : Int) : bodyC SE (C15 Γ γ25 γ26 γ21) Λ2 J 15 [api_Conn.av p0, api_Packet.av p1, .d (.int .i64 p2)] [] [] =
  cond (p0.State == 2) (
   (some (.ret [api_Conn.av (api_Conn.mk 0 0 ([] : Str) ([] : Str) 0 0 false), .d (.int .i64 21)] [] []))) (
  γ25 [api_Packet.av p1] [] [] fun r0 =>
  cond (r0 != 0) (
   (some (.ret [api_Conn.av (api_Conn.mk 0 0 ([] : Str) ([] : Str) 0 0 false), .d (.int .i64 r0)] [] []))) (
  γ26 [.d (.int .i64 p1.Kind)] [] [] fun r1 =>
  cond (!r1) (
   (some (.ret [api_Conn.av (api_Conn.mk 0 0 ([] : Str) ([] : Str) 0 0 false), .d (.int .i64 23)] [] []))) (
  γ21 [conn_end.av (conn_end.mk p0)] [] [] fun r2 =>
  cond (r2 != (p1.Kind == 1)) (
   (some (.ret [api_Conn.av (api_Conn.mk 0 0 ([] : Str) ([] : Str) 0 0 false), .d (.int .i64 23)] [] []))) (
  R15_9 (C15 Γ γ25 γ26 γ21) Λ2 J p2 (api_Packet.enc p1) ((api_Conn.enc (api_Conn.mk 0 0 ([] : Str) ([] : Str) 0 0 false))) (conn_end.enc (conn_end.mk p0)))))) := by kernel_rfl
theorem T15_9 (Γ : Fun) (γ25 : Gm (Int)) (γ26 : Gm (Bool)) (γ21 : Gm (Bool)) (Λ2 J : Lam) (x2 : Int) (b0 : api_Packet) (b1 : api_Conn) (b2 : conn_end) : labU SE (C15 Γ γ25 γ26 γ21) Λ2 J 15 0 [1, 1, 1, 1, 1, 0] (stoOf [(2, .d (.int .i64 x2)), (4, .ptr 1000000000 0), (6, .ptr 1000000001 0), (8, .ptr 1000000002 0)] [⟨39, (List.map AV.d (api_Packet.enc b0))⟩, ⟨23, (List.map AV.d (api_Conn.enc b1))⟩, ⟨49, (List.map AV.d (conn_end.enc b2))⟩] [] [] []) =
  cond (b0.Kind == 1) (
   (some (.ret [api_Conn.av (api_Conn.mk b2.Conn.ID 1 b0.Client b0.User b0.Keep x2 b0.Clean), .d (.int .i64 0)] [] []))) (
  cond (b0.Kind == 14) (
   (some (.ret [api_Conn.av (api_Conn.mk b2.Conn.ID 2 b2.Conn.Client b2.Conn.User b2.Conn.Keep x2 b2.Conn.Clean), .d (.int .i64 0)] [] []))) (
  (some (.ret [api_Conn.av (api_Conn.mk b2.Conn.ID b2.Conn.State b2.Conn.Client b2.Conn.User b2.Conn.Keep x2 b2.Conn.Clean), .d (.int .i64 0)] [] [])))) := by kernel_rfl
abbrev X15 : CFun := C15 (callG SE good) (callT SE good 25 packet_Check_out) (callT SE good 26 packet_Client_out) (callT SE good 21 conn_end__fresh_out)
theorem Cr15 : C15 (callG SE good) (callT SE good 25 packet_Check_out) (callT SE good 26 packet_Client_out) (callT SE good 21 conn_end__fresh_out) = bindC (callG SE good) := by unfold C15; rw [updC_real (fun _ h => h), updC_real (fun _ h => h), updC_real (fun _ h => h)]
noncomputable abbrev Q15_9 (a0 : Int) (a1 : (List D)) (a2 : (List D)) (a3 : (List D)) : Res := R15_9 X15 (lam2 SE (callG SE good) (SE.hl 15) (SE.hr 15)) (J0 SE X15) a0 a1 a2 a3
theorem conn_Receive_j9_ok (x2 : Int) (b0 : api_Packet) (b1 : api_Conn) (b2 : conn_end) : Le (Option.map conn_Receive_out (conn_Receive_j9 x2 b0 b1 b2)) (Q15_9 x2 (api_Packet.enc b0) (api_Conn.enc b1) (conn_end.enc b2)) := by
  refine Le.trans ?_ (le_of_eq ((lab_realC Cr15).trans (T15_9 _ _ _ _ _ _  x2 b0 b1 b2)).symm)
  unfold conn_Receive_j9
  refine le_cond rfl (fun _ => ?_) (fun _ => ?_)
  · skip
    exact le_ret (by first | rfl | (simp only [EN, conn_Receive_out]; done) | (simp only [EN, conn_Receive_out]; rfl))
  · skip
    refine le_cond rfl (fun _ => ?_) (fun _ => ?_)
    · skip
      exact le_ret (by first | rfl | (simp only [EN, conn_Receive_out]; done) | (simp only [EN, conn_Receive_out]; rfl))
    · skip
      exact le_ret (by first | rfl | (simp only [EN, conn_Receive_out]; done) | (simp only [EN, conn_Receive_out]; rfl))
theorem conn_Receive_ok (p0 : api_Conn) (p1 : api_Packet) (p2 : Int) : Le (Option.map conn_Receive_out (conn_Receive p0 p1 p2)) (callW SE 15 [api_Conn.av p0, api_Packet.av p1, .d (.int .i64 p2)] [] []) := by
  refine le_bodyC Cr15 ?_
  refine Le.trans ?_ (le_of_eq (T15 _ _ _ _ _ _  p0 p1 p2).symm)
  unfold conn_Receive
  refine le_cond rfl (fun _ => ?_) (fun _ => ?_)
  · skip
    exact le_ret (by first | rfl | (simp only [EN, conn_Receive_out]; done) | (simp only [EN, conn_Receive_out]; rfl))
  · skip
    refine le_call (good := good) (fun y => ⟨y, rfl⟩) packet_Check_inj (packet_Check_ok p1) (fun r0 _ => ?_)
    refine le_cond rfl (fun _ => ?_) (fun _ => ?_)
    · skip
      exact le_ret (by first | rfl | (simp only [EN, conn_Receive_out]; done) | (simp only [EN, conn_Receive_out]; rfl))
    · skip
      refine le_call (good := good) (fun y => ⟨y, rfl⟩) packet_Client_inj (packet_Client_ok p1.Kind) (fun r1 _ => ?_)
      refine le_cond rfl (fun _ => ?_) (fun _ => ?_)
      · skip
        exact le_ret (by first | rfl | (simp only [EN, conn_Receive_out]; done) | (simp only [EN, conn_Receive_out]; rfl))
      · skip
        refine le_call (good := good) (fun y => ⟨y, rfl⟩) conn_end__fresh_inj (conn_end__fresh_ok (conn_end.mk p0)) (fun r2 _ => ?_)
        refine le_cond rfl (fun _ => ?_) (fun _ => ?_)
        · skip
          exact le_ret (by first | rfl | (simp only [EN, conn_Receive_out]; done) | (simp only [EN, conn_Receive_out]; rfl))
        · skip
          first | (simp only [EN]; exact conn_Receive_j9_ok p2 p1 ((api_Conn.mk 0 0 ([] : Str) ([] : Str) 0 0 false)) (conn_end.mk p0)) | exact conn_Receive_j9_ok p2 p1 ((api_Conn.mk 0 0 ([] : Str) ([] : Str) 0 0 false)) (conn_end.mk p0)
def C22 (Γ : Fun)  : CFun := bindC Γ
theorem T22 (Γ : Fun)  (Λ2 J : Lam) (p0 : conn_end) : bodyC SE (C22 Γ) Λ2 J 22 [conn_end.av p0] [] [] =
  cond (p0.Conn.Client == ([] : Str)) (
   cond (p0.Conn.User == ([] : Str)) (
    cond (p0.Conn.Keep == 0) (
     (some (.ret [.d (.bool (!p0.Conn.Clean))] [] []))) (
    (some (.ret [.d (.bool false)] [] [])))) (
   (some (.ret [.d (.bool false)] [] [])))) (
  (some (.ret [.d (.bool false)] [] []))) := by kernel_rfl
abbrev X22 : CFun := C22 (callG SE good)
theorem Cr22 : C22 (callG SE good) = bindC (callG SE good) := by unfold C22; rfl
theorem conn_end__unset_ok (p0 : conn_end) : Le (Option.map conn_end__unset_out (conn_end__unset p0)) (callW SE 22 [conn_end.av p0] [] []) := by
  refine le_bodyC Cr22 ?_
  refine Le.trans ?_ (le_of_eq (T22 _ _ _  p0).symm)
  unfold conn_end__unset
  refine le_cond rfl (fun _ => ?_) (fun _ => ?_)
  · skip
    refine le_cond rfl (fun _ => ?_) (fun _ => ?_)
    · skip
      refine le_cond rfl (fun _ => ?_) (fun _ => ?_)
      · skip
        exact le_ret (by first | rfl | (simp only [EN, conn_end__unset_out]; done) | (simp only [EN, conn_end__unset_out]; rfl))
      · skip
        exact le_ret (by first | rfl | (simp only [EN, conn_end__unset_out]; done) | (simp only [EN, conn_end__unset_out]; rfl))
    · skip
      exact le_ret (by first | rfl | (simp only [EN, conn_end__unset_out]; done) | (simp only [EN, conn_end__unset_out]; rfl))
  · skip
    exact le_ret (by first | rfl | (simp only [EN, conn_end__unset_out]; done) | (simp only [EN, conn_end__unset_out]; rfl))
def C23 (Γ : Fun) (γ36 : Gm (Bool)) : CFun := updC (bindC Γ) 36 topic_Name_out γ36
theorem T23 (Γ : Fun) (γ36 : Gm (Bool)) (Λ2 J : Lam) (p0 : conn_end) : bodyC SE (C23 Γ γ36) Λ2 J 23 [conn_end.av p0] [] [] =
  γ36 [.d (.str p0.Conn.Client)] [] [] fun r0 =>
  cond r0 (
   cond (p0.Conn.User == ([] : Str)) (
    (some (.ret [.d (.bool true)] [] []))) (
   γ36 [.d (.str p0.Conn.User)] [] [] fun r1 =>
   (some (.ret [.d (.bool r1)] [] [])))) (
  (some (.ret [.d (.bool false)] [] []))) := by kernel_rfl
abbrev X23 : CFun := C23 (callG SE good) (callT SE good 36 topic_Name_out)
theorem Cr23 : C23 (callG SE good) (callT SE good 36 topic_Name_out) = bindC (callG SE good) := by unfold C23; rw [updC_real (fun _ h => h)]
theorem conn_end__named_ok (p0 : conn_end) : Le (Option.map conn_end__named_out (conn_end__named p0)) (callW SE 23 [conn_end.av p0] [] []) := by
  refine le_bodyC Cr23 ?_
  refine Le.trans ?_ (le_of_eq (T23 _ _ _ _  p0).symm)
  unfold conn_end__named
  refine le_call (good := good) (fun y => ⟨y, rfl⟩) topic_Name_inj (topic_Name_ok p0.Conn.Client) (fun r0 _ => ?_)
  refine le_cond rfl (fun _ => ?_) (fun _ => ?_)
  · skip
    refine le_cond rfl (fun _ => ?_) (fun _ => ?_)
    · skip
      exact le_ret (by first | rfl | (simp only [EN, conn_end__named_out]; done) | (simp only [EN, conn_end__named_out]; rfl))
    · skip
      refine le_call (good := good) (fun y => ⟨y, rfl⟩) topic_Name_inj (topic_Name_ok p0.Conn.User) (fun r1 _ => ?_)
      exact le_ret (by first | rfl | (simp only [EN, conn_end__named_out]; done) | (simp only [EN, conn_end__named_out]; rfl))
  · skip
    exact le_ret (by first | rfl | (simp only [EN, conn_end__named_out]; done) | (simp only [EN, conn_end__named_out]; rfl))
def C8 (Γ : Fun) (γ21 : Gm (Bool)) (γ22 : Gm (Bool)) (γ23 : Gm (Bool)) : CFun := updC (updC (updC (bindC Γ) 21 conn_end__fresh_out γ21) 22 conn_end__unset_out γ22) 23 conn_end__named_out γ23
theorem T8 (Γ : Fun) (γ21 : Gm (Bool)) (γ22 : Gm (Bool)) (γ23 : Gm (Bool)) (Λ2 J : Lam) (p0 : api_Conn) : bodyC SE (C8 Γ γ21 γ22 γ23) Λ2 J 8 [api_Conn.av p0] [] [] =
  cond (decide (p0.ID < 0)) (
   (some (.ret [.d (.int .i64 1)] [] []))) (
  cond (decide (p0.ID > 1099511627776)) (
   (some (.ret [.d (.int .i64 1)] [] []))) (
  cond (p0.State != 0) (
   cond (p0.State != 1) (
    cond (p0.State != 2) (
     (some (.ret [.d (.int .i64 10)] [] []))) (
    cond (decide (p0.Keep < 0)) (
     (some (.ret [.d (.int .i64 1)] [] []))) (
    cond (decide (p0.Keep > 1099511627776)) (
     (some (.ret [.d (.int .i64 1)] [] []))) (
    cond (decide (p0.Last < 0)) (
     (some (.ret [.d (.int .i64 1)] [] []))) (
    cond (decide (p0.Last > 1099511627776)) (
     (some (.ret [.d (.int .i64 1)] [] []))) (
    γ21 [conn_end.av (conn_end.mk p0)] [] [] fun r0 =>
    cond r0 (
     γ22 [conn_end.av (conn_end.mk p0)] [] [] fun r1 =>
     cond (!r1) (
      (some (.ret [.d (.int .i64 28)] [] []))) (
     cond (p0.State == 1) (
      γ23 [conn_end.av (conn_end.mk p0)] [] [] fun r2 =>
      cond (!r2) (
       (some (.ret [.d (.int .i64 11)] [] []))) (
      (some (.ret [.d (.int .i64 0)] [] [])))) (
     (some (.ret [.d (.int .i64 0)] [] []))))) (
    cond (p0.State == 1) (
     γ23 [conn_end.av (conn_end.mk p0)] [] [] fun r3 =>
     cond (!r3) (
      (some (.ret [.d (.int .i64 11)] [] []))) (
     (some (.ret [.d (.int .i64 0)] [] [])))) (
    (some (.ret [.d (.int .i64 0)] [] [])))))))))) (
   cond (decide (p0.Keep < 0)) (
    (some (.ret [.d (.int .i64 1)] [] []))) (
   cond (decide (p0.Keep > 1099511627776)) (
    (some (.ret [.d (.int .i64 1)] [] []))) (
   cond (decide (p0.Last < 0)) (
    (some (.ret [.d (.int .i64 1)] [] []))) (
   cond (decide (p0.Last > 1099511627776)) (
    (some (.ret [.d (.int .i64 1)] [] []))) (
   γ21 [conn_end.av (conn_end.mk p0)] [] [] fun r4 =>
   cond r4 (
    γ22 [conn_end.av (conn_end.mk p0)] [] [] fun r5 =>
    cond (!r5) (
     (some (.ret [.d (.int .i64 28)] [] []))) (
    cond (p0.State == 1) (
     γ23 [conn_end.av (conn_end.mk p0)] [] [] fun r6 =>
     cond (!r6) (
      (some (.ret [.d (.int .i64 11)] [] []))) (
     (some (.ret [.d (.int .i64 0)] [] [])))) (
    (some (.ret [.d (.int .i64 0)] [] []))))) (
   cond (p0.State == 1) (
    γ23 [conn_end.av (conn_end.mk p0)] [] [] fun r7 =>
    cond (!r7) (
     (some (.ret [.d (.int .i64 11)] [] []))) (
    (some (.ret [.d (.int .i64 0)] [] [])))) (
   (some (.ret [.d (.int .i64 0)] [] [])))))))))) (
  cond (decide (p0.Keep < 0)) (
   (some (.ret [.d (.int .i64 1)] [] []))) (
  cond (decide (p0.Keep > 1099511627776)) (
   (some (.ret [.d (.int .i64 1)] [] []))) (
  cond (decide (p0.Last < 0)) (
   (some (.ret [.d (.int .i64 1)] [] []))) (
  cond (decide (p0.Last > 1099511627776)) (
   (some (.ret [.d (.int .i64 1)] [] []))) (
  γ21 [conn_end.av (conn_end.mk p0)] [] [] fun r8 =>
  cond r8 (
   γ22 [conn_end.av (conn_end.mk p0)] [] [] fun r9 =>
   cond (!r9) (
    (some (.ret [.d (.int .i64 28)] [] []))) (
   cond (p0.State == 1) (
    γ23 [conn_end.av (conn_end.mk p0)] [] [] fun r10 =>
    cond (!r10) (
     (some (.ret [.d (.int .i64 11)] [] []))) (
    (some (.ret [.d (.int .i64 0)] [] [])))) (
   (some (.ret [.d (.int .i64 0)] [] []))))) (
  cond (p0.State == 1) (
   γ23 [conn_end.av (conn_end.mk p0)] [] [] fun r11 =>
   cond (!r11) (
    (some (.ret [.d (.int .i64 11)] [] []))) (
   (some (.ret [.d (.int .i64 0)] [] [])))) (
  (some (.ret [.d (.int .i64 0)] [] []))))))))))) := by kernel_rfl
abbrev X8 : CFun := C8 (callG SE good) (callT SE good 21 conn_end__fresh_out) (callT SE good 22 conn_end__unset_out) (callT SE good 23 conn_end__named_out)
theorem Cr8 : C8 (callG SE good) (callT SE good 21 conn_end__fresh_out) (callT SE good 22 conn_end__unset_out) (callT SE good 23 conn_end__named_out) = bindC (callG SE good) := by unfold C8; rw [updC_real (fun _ h => h), updC_real (fun _ h => h), updC_real (fun _ h => h)]
theorem conn_Check_ok (p0 : api_Conn) : Le (Option.map conn_Check_out (conn_Check p0)) (callW SE 8 [api_Conn.av p0] [] []) := by
  refine le_bodyC Cr8 ?_
  refine Le.trans ?_ (le_of_eq (T8 _ _ _ _ _ _  p0).symm)
  unfold conn_Check
  refine le_cond rfl (fun _ => ?_) (fun _ => ?_)
  · skip
    exact le_ret (by first | rfl | (simp only [EN, conn_Check_out]; done) | (simp only [EN, conn_Check_out]; rfl))
  · skip
    refine le_cond rfl (fun _ => ?_) (fun _ => ?_)
    · skip
      exact le_ret (by first | rfl | (simp only [EN, conn_Check_out]; done) | (simp only [EN, conn_Check_out]; rfl))
    · skip
      refine le_cond rfl (fun _ => ?_) (fun _ => ?_)
      · skip
        refine le_cond rfl (fun _ => ?_) (fun _ => ?_)
        · skip
          refine le_cond rfl (fun _ => ?_) (fun _ => ?_)
          · skip
            exact le_ret (by first | rfl | (simp only [EN, conn_Check_out]; done) | (simp only [EN, conn_Check_out]; rfl))
          · skip
            refine le_cond rfl (fun _ => ?_) (fun _ => ?_)
            · skip
              exact le_ret (by first | rfl | (simp only [EN, conn_Check_out]; done) | (simp only [EN, conn_Check_out]; rfl))
            · skip
              refine le_cond rfl (fun _ => ?_) (fun _ => ?_)
              · skip
                exact le_ret (by first | rfl | (simp only [EN, conn_Check_out]; done) | (simp only [EN, conn_Check_out]; rfl))
              · skip
                refine le_cond rfl (fun _ => ?_) (fun _ => ?_)
                · skip
                  exact le_ret (by first | rfl | (simp only [EN, conn_Check_out]; done) | (simp only [EN, conn_Check_out]; rfl))
                · skip
                  refine le_cond rfl (fun _ => ?_) (fun _ => ?_)
                  · skip
                    exact le_ret (by first | rfl | (simp only [EN, conn_Check_out]; done) | (simp only [EN, conn_Check_out]; rfl))
                  · skip
                    refine le_call (good := good) (fun y => ⟨y, rfl⟩) conn_end__fresh_inj (conn_end__fresh_ok (conn_end.mk p0)) (fun r0 _ => ?_)
                    refine le_cond rfl (fun _ => ?_) (fun _ => ?_)
                    · skip
                      refine le_call (good := good) (fun y => ⟨y, rfl⟩) conn_end__unset_inj (conn_end__unset_ok (conn_end.mk p0)) (fun r1 _ => ?_)
                      refine le_cond rfl (fun _ => ?_) (fun _ => ?_)
                      · skip
                        exact le_ret (by first | rfl | (simp only [EN, conn_Check_out]; done) | (simp only [EN, conn_Check_out]; rfl))
                      · skip
                        refine le_cond rfl (fun _ => ?_) (fun _ => ?_)
                        · skip
                          refine le_call (good := good) (fun y => ⟨y, rfl⟩) conn_end__named_inj (conn_end__named_ok (conn_end.mk p0)) (fun r2 _ => ?_)
                          refine le_cond rfl (fun _ => ?_) (fun _ => ?_)
                          · skip
                            exact le_ret (by first | rfl | (simp only [EN, conn_Check_out]; done) | (simp only [EN, conn_Check_out]; rfl))
                          · skip
                            exact le_ret (by first | rfl | (simp only [EN, conn_Check_out]; done) | (simp only [EN, conn_Check_out]; rfl))
                        · skip
                          exact le_ret (by first | rfl | (simp only [EN, conn_Check_out]; done) | (simp only [EN, conn_Check_out]; rfl))
                    · skip
                      refine le_cond rfl (fun _ => ?_) (fun _ => ?_)
                      · skip
                        refine le_call (good := good) (fun y => ⟨y, rfl⟩) conn_end__named_inj (conn_end__named_ok (conn_end.mk p0)) (fun r3 _ => ?_)
                        refine le_cond rfl (fun _ => ?_) (fun _ => ?_)
                        · skip
                          exact le_ret (by first | rfl | (simp only [EN, conn_Check_out]; done) | (simp only [EN, conn_Check_out]; rfl))
                        · skip
                          exact le_ret (by first | rfl | (simp only [EN, conn_Check_out]; done) | (simp only [EN, conn_Check_out]; rfl))
                      · skip
                        exact le_ret (by first | rfl | (simp only [EN, conn_Check_out]; done) | (simp only [EN, conn_Check_out]; rfl))
        · skip
          refine le_cond rfl (fun _ => ?_) (fun _ => ?_)
          · skip
            exact le_ret (by first | rfl | (simp only [EN, conn_Check_out]; done) | (simp only [EN, conn_Check_out]; rfl))
          · skip
            refine le_cond rfl (fun _ => ?_) (fun _ => ?_)
            · skip
              exact le_ret (by first | rfl | (simp only [EN, conn_Check_out]; done) | (simp only [EN, conn_Check_out]; rfl))
            · skip
              refine le_cond rfl (fun _ => ?_) (fun _ => ?_)
              · skip
                exact le_ret (by first | rfl | (simp only [EN, conn_Check_out]; done) | (simp only [EN, conn_Check_out]; rfl))
              · skip
                refine le_cond rfl (fun _ => ?_) (fun _ => ?_)
                · skip
                  exact le_ret (by first | rfl | (simp only [EN, conn_Check_out]; done) | (simp only [EN, conn_Check_out]; rfl))
                · skip
                  refine le_call (good := good) (fun y => ⟨y, rfl⟩) conn_end__fresh_inj (conn_end__fresh_ok (conn_end.mk p0)) (fun r4 _ => ?_)
                  refine le_cond rfl (fun _ => ?_) (fun _ => ?_)
                  · skip
                    refine le_call (good := good) (fun y => ⟨y, rfl⟩) conn_end__unset_inj (conn_end__unset_ok (conn_end.mk p0)) (fun r5 _ => ?_)
                    refine le_cond rfl (fun _ => ?_) (fun _ => ?_)
                    · skip
                      exact le_ret (by first | rfl | (simp only [EN, conn_Check_out]; done) | (simp only [EN, conn_Check_out]; rfl))
                    · skip
                      refine le_cond rfl (fun _ => ?_) (fun _ => ?_)
                      · skip
                        refine le_call (good := good) (fun y => ⟨y, rfl⟩) conn_end__named_inj (conn_end__named_ok (conn_end.mk p0)) (fun r6 _ => ?_)
                        refine le_cond rfl (fun _ => ?_) (fun _ => ?_)
                        · skip
                          exact le_ret (by first | rfl | (simp only [EN, conn_Check_out]; done) | (simp only [EN, conn_Check_out]; rfl))
                        · skip
                          exact le_ret (by first | rfl | (simp only [EN, conn_Check_out]; done) | (simp only [EN, conn_Check_out]; rfl))
                      · skip
                        exact le_ret (by first | rfl | (simp only [EN, conn_Check_out]; done) | (simp only [EN, conn_Check_out]; rfl))
                  · skip
                    refine le_cond rfl (fun _ => ?_) (fun _ => ?_)
                    · skip
                      refine le_call (good := good) (fun y => ⟨y, rfl⟩) conn_end__named_inj (conn_end__named_ok (conn_end.mk p0)) (fun r7 _ => ?_)
                      refine le_cond rfl (fun _ => ?_) (fun _ => ?_)
                      · skip
                        exact le_ret (by first | rfl | (simp only [EN, conn_Check_out]; done) | (simp only [EN, conn_Check_out]; rfl))
                      · skip
                        exact le_ret (by first | rfl | (simp only [EN, conn_Check_out]; done) | (simp only [EN, conn_Check_out]; rfl))
                    · skip
                      exact le_ret (by first | rfl | (simp only [EN, conn_Check_out]; done) | (simp only [EN, conn_Check_out]; rfl))
      · skip
        refine le_cond rfl (fun _ => ?_) (fun _ => ?_)
        · skip
          exact le_ret (by first | rfl | (simp only [EN, conn_Check_out]; done) | (simp only [EN, conn_Check_out]; rfl))
        · skip
          refine le_cond rfl (fun _ => ?_) (fun _ => ?_)
          · skip
            exact le_ret (by first | rfl | (simp only [EN, conn_Check_out]; done) | (simp only [EN, conn_Check_out]; rfl))
          · skip
            refine le_cond rfl (fun _ => ?_) (fun _ => ?_)
            · skip
              exact le_ret (by first | rfl | (simp only [EN, conn_Check_out]; done) | (simp only [EN, conn_Check_out]; rfl))
            · skip
              refine le_cond rfl (fun _ => ?_) (fun _ => ?_)
              · skip
                exact le_ret (by first | rfl | (simp only [EN, conn_Check_out]; done) | (simp only [EN, conn_Check_out]; rfl))
              · skip
                refine le_call (good := good) (fun y => ⟨y, rfl⟩) conn_end__fresh_inj (conn_end__fresh_ok (conn_end.mk p0)) (fun r8 _ => ?_)
                refine le_cond rfl (fun _ => ?_) (fun _ => ?_)
                · skip
                  refine le_call (good := good) (fun y => ⟨y, rfl⟩) conn_end__unset_inj (conn_end__unset_ok (conn_end.mk p0)) (fun r9 _ => ?_)
                  refine le_cond rfl (fun _ => ?_) (fun _ => ?_)
                  · skip
                    exact le_ret (by first | rfl | (simp only [EN, conn_Check_out]; done) | (simp only [EN, conn_Check_out]; rfl))
                  · skip
                    refine le_cond rfl (fun _ => ?_) (fun _ => ?_)
                    · skip
                      refine le_call (good := good) (fun y => ⟨y, rfl⟩) conn_end__named_inj (conn_end__named_ok (conn_end.mk p0)) (fun r10 _ => ?_)
                      refine le_cond rfl (fun _ => ?_) (fun _ => ?_)
                      · skip
                        exact le_ret (by first | rfl | (simp only [EN, conn_Check_out]; done) | (simp only [EN, conn_Check_out]; rfl))
                      · skip
                        exact le_ret (by first | rfl | (simp only [EN, conn_Check_out]; done) | (simp only [EN, conn_Check_out]; rfl))
                    · skip
                      exact le_ret (by first | rfl | (simp only [EN, conn_Check_out]; done) | (simp only [EN, conn_Check_out]; rfl))
                · skip
                  refine le_cond rfl (fun _ => ?_) (fun _ => ?_)
                  · skip
                    refine le_call (good := good) (fun y => ⟨y, rfl⟩) conn_end__named_inj (conn_end__named_ok (conn_end.mk p0)) (fun r11 _ => ?_)
                    refine le_cond rfl (fun _ => ?_) (fun _ => ?_)
                    · skip
                      exact le_ret (by first | rfl | (simp only [EN, conn_Check_out]; done) | (simp only [EN, conn_Check_out]; rfl))
                    · skip
                      exact le_ret (by first | rfl | (simp only [EN, conn_Check_out]; done) | (simp only [EN, conn_Check_out]; rfl))
                  · skip
                    exact le_ret (by first | rfl | (simp only [EN, conn_Check_out]; done) | (simp only [EN, conn_Check_out]; rfl))
def C10 (Γ : Fun)  : CFun := bindC Γ
theorem T10 (Γ : Fun)  (Λ2 J : Lam) (p0 : api_Conn) : bodyC SE (C10 Γ) Λ2 J 10 [api_Conn.av p0] [] [] =
  (some (.ret [api_Conn.av (api_Conn.mk p0.ID 2 p0.Client p0.User p0.Keep p0.Last p0.Clean)] [] [])) := by kernel_rfl
abbrev X10 : CFun := C10 (callG SE good)
theorem Cr10 : C10 (callG SE good) = bindC (callG SE good) := by unfold C10; rfl
theorem conn_Close_ok (p0 : api_Conn) : Le (Option.map conn_Close_out (conn_Close p0)) (callW SE 10 [api_Conn.av p0] [] []) := by
  refine le_bodyC Cr10 ?_
  refine Le.trans ?_ (le_of_eq (T10 _ _ _  p0).symm)
  unfold conn_Close
  exact le_ret (by first | rfl | (simp only [EN, conn_Close_out]; done) | (simp only [EN, conn_Close_out]; rfl))
def C7 (Γ : Fun) (γ12 : Gm (api_Conn)) (γ17 : Gm (Bool)) (γ15 : Gm (api_Conn × Int)) (γ8 : Gm (Int)) (γ10 : Gm (api_Conn)) : CFun := updC (updC (updC (updC (updC (bindC Γ) 12 conn_New_out γ12) 17 conn_Expired_out γ17) 15 conn_Receive_out γ15) 8 conn_Check_out γ8) 10 conn_Close_out γ10
def R7_8 (C : CFun) (Λ2 J : Lam) (a0 : (List D)) (a1 : (List D)) : Res := lab SE C Λ2 J 7 0 [1, 1, 1, 1, 1, 1, 0] (stoOf [(2, .ptr 1000000000 0), (3, .ptr 1000000001 0)] [⟨39, (List.map AV.d a0)⟩, ⟨23, (List.map AV.d a1)⟩] [] [] [])
def R7_4 (C : CFun) (Λ2 J : Lam) (a0 : (List D)) : Res := lab SE C Λ2 J 7 0 [1, 1, 1, 0] (stoOf [(1, .ptr 1000000000 0)] [⟨23, (List.map AV.d a0)⟩] [] [] [])
theorem T7 (Γ : Fun) (γ12 : Gm (api_Conn)) (γ17 : Gm (Bool)) (γ15 : Gm (api_Conn × Int)) (γ8 : Gm (Int)) (γ10 : Gm (api_Conn)) (Λ2 J : Lam) : bodyC SE (C7 Γ γ12 γ17 γ15 γ8 γ10) Λ2 J 7 [] [] [] =
  γ12 [.d (.int .i64 7), .d (.int .i64 100)] [] [] fun r0 =>
  cond (r0.ID != 7) (
   (some (.ret [.d (.bool false)] [] []))) (
  cond (r0.State != 0) (
   (some (.ret [.d (.bool false)] [] []))) (
  cond (r0.Last != 100) (
   (some (.ret [.d (.bool false)] [] []))) (
  γ17 [api_Conn.av r0, .d (.int .i64 111)] [] [] fun r1 =>
  cond (!r1) (
   (some (.ret [.d (.bool false)] [] []))) (
  γ17 [api_Conn.av r0, .d (.int .i64 110)] [] [] fun r2 =>
  cond r2 (
   (some (.ret [.d (.bool false)] [] []))) (
  R7_4 (C7 Γ γ12 γ17 γ15 γ8 γ10) Λ2 J (api_Conn.enc r0)))))) := by kernel_rfl
theorem T7_8 (Γ : Fun) (γ12 : Gm (api_Conn)) (γ17 : Gm (Bool)) (γ15 : Gm (api_Conn × Int)) (γ8 : Gm (Int)) (γ10 : Gm (api_Conn)) (Λ2 J : Lam) (b0 : api_Packet) (b1 : api_Conn) : labU SE (C7 Γ γ12 γ17 γ15 γ8 γ10) Λ2 J 7 0 [1, 1, 1, 1, 1, 1, 0] (stoOf [(2, .ptr 1000000000 0), (3, .ptr 1000000001 0)] [⟨39, (List.map AV.d (api_Packet.enc b0))⟩, ⟨23, (List.map AV.d (api_Conn.enc b1))⟩] [] [] []) =
  γ15 [api_Conn.av b1, api_Packet.av b0, .d (.int .i64 101)] [] [] fun r6 =>
  γ15 [api_Conn.av b1, .agg [.d (.int .i64 12), .d (.int .i64 0), .d (.bool false), .d (.str ([] : Str)), .d (.str ([] : Str)), .d (.int .i64 0), .d (.bool false), .d (.int .i64 0), .d (.int .i64 0), .d (.str ([] : Str)), .d (.int .i64 0), .d (.sl api_Prop.ks (List.map api_Prop.enc [])), .d (.str ([] : Str)), .d (.str ([] : Str)), .d (.bool false), .d (.int .i64 0), .d (.int .i64 0), .d (.int .i64 0), .d (.bool false), .d (.int .i64 0), .d (.str ([] : Str)), .d (.str ([] : Str)), .d (.int .i64 0), .d (.bool false), .d (.int .i64 0), .d (.int .i64 0), .d (.str ([] : Str)), .d (.int .i64 0), .d (.sl api_Prop.ks (List.map api_Prop.enc [])), .d (.bool false), .d (.int .i64 0), .d (.sl api_Sub.ks (List.map api_Sub.enc [])), .d (.sl [.str] (List.map encS [])), .d (.sl [.int .i64] (List.map (encI .i64) []))], .d (.int .i64 101)] [] [] fun r7 =>
  γ15 [api_Conn.av b1, .agg [.d (.int .i64 13), .d (.int .i64 0), .d (.bool false), .d (.str ([] : Str)), .d (.str ([] : Str)), .d (.int .i64 0), .d (.bool false), .d (.int .i64 0), .d (.int .i64 0), .d (.str ([] : Str)), .d (.int .i64 0), .d (.sl api_Prop.ks (List.map api_Prop.enc [])), .d (.str ([] : Str)), .d (.str ([] : Str)), .d (.bool false), .d (.int .i64 0), .d (.int .i64 0), .d (.int .i64 0), .d (.bool false), .d (.int .i64 0), .d (.str ([] : Str)), .d (.str ([] : Str)), .d (.int .i64 0), .d (.bool false), .d (.int .i64 0), .d (.int .i64 0), .d (.str ([] : Str)), .d (.int .i64 0), .d (.sl api_Prop.ks (List.map api_Prop.enc [])), .d (.bool false), .d (.int .i64 0), .d (.sl api_Sub.ks (List.map api_Sub.enc [])), .d (.sl [.str] (List.map encS [])), .d (.sl [.int .i64] (List.map (encI .i64) []))], .d (.int .i64 101)] [] [] fun r8 =>
  cond (r6.2 == 23) (
   cond (r7.2 == 0) (
    cond (r8.2 == 23) (
     γ8 [api_Conn.av b1] [] [] fun r9 =>
     cond (r9 == 0) (
      γ10 [api_Conn.av b1] [] [] fun r10 =>
      (some (.ret [.d (.bool (r10.State == 2))] [] []))) (
     (some (.ret [.d (.bool false)] [] [])))) (
    (some (.ret [.d (.bool false)] [] [])))) (
   (some (.ret [.d (.bool false)] [] [])))) (
  (some (.ret [.d (.bool false)] [] []))) := by kernel_rfl
theorem T7_4 (Γ : Fun) (γ12 : Gm (api_Conn)) (γ17 : Gm (Bool)) (γ15 : Gm (api_Conn × Int)) (γ8 : Gm (Int)) (γ10 : Gm (api_Conn)) (Λ2 J : Lam) (b0 : api_Conn) : labU SE (C7 Γ γ12 γ17 γ15 γ8 γ10) Λ2 J 7 0 [1, 1, 1, 0] (stoOf [(1, .ptr 1000000000 0)] [⟨23, (List.map AV.d (api_Conn.enc b0))⟩] [] [] []) =
  γ15 [api_Conn.av b0, .agg [.d (.int .i64 1), .d (.int .i64 0), .d (.bool false), .d (.str ([] : Str)), .d (.str ([] : Str)), .d (.int .i64 0), .d (.bool false), .d (.int .i64 0), .d (.int .i64 0), .d (.str ([] : Str)), .d (.int .i64 0), .d (.sl api_Prop.ks (List.map api_Prop.enc [])), .d (.str ([99] : Str)), .d (.str ([] : Str)), .d (.bool false), .d (.int .i64 10), .d (.int .i64 0), .d (.int .i64 4), .d (.bool false), .d (.int .i64 0), .d (.str ([] : Str)), .d (.str ([] : Str)), .d (.int .i64 0), .d (.bool false), .d (.int .i64 0), .d (.int .i64 0), .d (.str ([] : Str)), .d (.int .i64 0), .d (.sl api_Prop.ks (List.map api_Prop.enc [])), .d (.bool false), .d (.int .i64 0), .d (.sl api_Sub.ks (List.map api_Sub.enc [])), .d (.sl [.str] (List.map encS [])), .d (.sl [.int .i64] (List.map (encI .i64) []))], .d (.int .i64 100)] [] [] fun r3 =>
  cond (r3.2 != 0) (
   (some (.ret [.d (.bool false)] [] []))) (
  cond (r3.1.State != 1) (
   (some (.ret [.d (.bool false)] [] []))) (
  cond (!(r3.1.Client == ([99] : Str))) (
   (some (.ret [.d (.bool false)] [] []))) (
  γ17 [api_Conn.av r3.1, .d (.int .i64 115)] [] [] fun r4 =>
  cond r4 (
   (some (.ret [.d (.bool false)] [] []))) (
  γ17 [api_Conn.av r3.1, .d (.int .i64 116)] [] [] fun r5 =>
  cond (!r5) (
   (some (.ret [.d (.bool false)] [] []))) (
  R7_8 (C7 Γ γ12 γ17 γ15 γ8 γ10) Λ2 J [D.int .i64 1, D.int .i64 0, D.bool false, D.str ([] : Str), D.str ([] : Str), D.int .i64 0, D.bool false, D.int .i64 0, D.int .i64 0, D.str ([] : Str), D.int .i64 0, D.sl api_Prop.ks (List.map api_Prop.enc []), D.str ([99] : Str), D.str ([] : Str), D.bool false, D.int .i64 10, D.int .i64 0, D.int .i64 4, D.bool false, D.int .i64 0, D.str ([] : Str), D.str ([] : Str), D.int .i64 0, D.bool false, D.int .i64 0, D.int .i64 0, D.str ([] : Str), D.int .i64 0, D.sl api_Prop.ks (List.map api_Prop.enc []), D.bool false, D.int .i64 0, D.sl api_Sub.ks (List.map api_Sub.enc []), D.sl [.str] (List.map encS []), D.sl [.int .i64] (List.map (encI .i64) [])] (api_Conn.enc r3.1)))))) := by kernel_rfl
abbrev X7 : CFun := C7 (callG SE good) (callT SE good 12 conn_New_out) (callT SE good 17 conn_Expired_out) (callT SE good 15 conn_Receive_out) (callT SE good 8 conn_Check_out) (callT SE good 10 conn_Close_out)
theorem Cr7 : C7 (callG SE good) (callT SE good 12 conn_New_out) (callT SE good 17 conn_Expired_out) (callT SE good 15 conn_Receive_out) (callT SE good 8 conn_Check_out) (callT SE good 10 conn_Close_out) = bindC (callG SE good) := by unfold C7; rw [updC_real (fun _ h => h), updC_real (fun _ h => h), updC_real (fun _ h => h), updC_real (fun _ h => h), updC_real (fun _ h => h)]
noncomputable abbrev Q7_8 (a0 : (List D)) (a1 : (List D)) : Res := R7_8 X7 (lam2 SE (callG SE good) (SE.hl 7) (SE.hr 7)) (J0 SE X7) a0 a1
noncomputable abbrev Q7_4 (a0 : (List D)) : Res := R7_4 X7 (lam2 SE (callG SE good) (SE.hl 7) (SE.hr 7)) (J0 SE X7) a0
theorem brokerlaw49_awake_j8_ok (b0 : api_Packet) (b1 : api_Conn) : Le (Option.map brokerlaw49_awake_out (brokerlaw49_awake_j8 b0 b1)) (Q7_8 (api_Packet.enc b0) (api_Conn.enc b1)) := by
  refine Le.trans ?_ (le_of_eq ((lab_realC Cr7).trans (T7_8 _ _ _ _ _ _ _ _  b0 b1)).symm)
  unfold brokerlaw49_awake_j8
  refine le_call (good := good) (fun y => ⟨y, rfl⟩) conn_Receive_inj (conn_Receive_ok b1 b0 101) (fun r6 _ => ?_)
  refine le_call (good := good) (fun y => ⟨y, rfl⟩) conn_Receive_inj (by first | (simp only [EN]; exact conn_Receive_ok b1 ((api_Packet.mk 12 0 false (api_Message.mk ([] : Str) ([] : Str) 0 false 0 0 ([] : Str) 0 ([] : List api_Prop)) ([] : Str) ([] : Str) false 0 0 0 (api_Will.mk false 0 (api_Message.mk ([] : Str) ([] : Str) 0 false 0 0 ([] : Str) 0 ([] : List api_Prop))) false 0 ([] : List api_Sub) ([] : List Str) ([] : List Int))) 101) | exact conn_Receive_ok b1 ((api_Packet.mk 12 0 false (api_Message.mk ([] : Str) ([] : Str) 0 false 0 0 ([] : Str) 0 ([] : List api_Prop)) ([] : Str) ([] : Str) false 0 0 0 (api_Will.mk false 0 (api_Message.mk ([] : Str) ([] : Str) 0 false 0 0 ([] : Str) 0 ([] : List api_Prop))) false 0 ([] : List api_Sub) ([] : List Str) ([] : List Int))) 101) (fun r7 _ => ?_)
  refine le_call (good := good) (fun y => ⟨y, rfl⟩) conn_Receive_inj (by first | (simp only [EN]; exact conn_Receive_ok b1 ((api_Packet.mk 13 0 false (api_Message.mk ([] : Str) ([] : Str) 0 false 0 0 ([] : Str) 0 ([] : List api_Prop)) ([] : Str) ([] : Str) false 0 0 0 (api_Will.mk false 0 (api_Message.mk ([] : Str) ([] : Str) 0 false 0 0 ([] : Str) 0 ([] : List api_Prop))) false 0 ([] : List api_Sub) ([] : List Str) ([] : List Int))) 101) | exact conn_Receive_ok b1 ((api_Packet.mk 13 0 false (api_Message.mk ([] : Str) ([] : Str) 0 false 0 0 ([] : Str) 0 ([] : List api_Prop)) ([] : Str) ([] : Str) false 0 0 0 (api_Will.mk false 0 (api_Message.mk ([] : Str) ([] : Str) 0 false 0 0 ([] : Str) 0 ([] : List api_Prop))) false 0 ([] : List api_Sub) ([] : List Str) ([] : List Int))) 101) (fun r8 _ => ?_)
  refine le_cond rfl (fun _ => ?_) (fun _ => ?_)
  · skip
    refine le_cond rfl (fun _ => ?_) (fun _ => ?_)
    · skip
      refine le_cond rfl (fun _ => ?_) (fun _ => ?_)
      · skip
        refine le_call (good := good) (fun y => ⟨y, rfl⟩) conn_Check_inj (conn_Check_ok b1) (fun r9 _ => ?_)
        refine le_cond rfl (fun _ => ?_) (fun _ => ?_)
        · skip
          refine le_call (good := good) (fun y => ⟨y, rfl⟩) conn_Close_inj (conn_Close_ok b1) (fun r10 _ => ?_)
          exact le_ret (by first | rfl | (simp only [EN, brokerlaw49_awake_out]; done) | (simp only [EN, brokerlaw49_awake_out]; rfl))
        · skip
          exact le_ret (by first | rfl | (simp only [EN, brokerlaw49_awake_out]; done) | (simp only [EN, brokerlaw49_awake_out]; rfl))
      · skip
        exact le_ret (by first | rfl | (simp only [EN, brokerlaw49_awake_out]; done) | (simp only [EN, brokerlaw49_awake_out]; rfl))
    · skip
      exact le_ret (by first | rfl | (simp only [EN, brokerlaw49_awake_out]; done) | (simp only [EN, brokerlaw49_awake_out]; rfl))
  · skip
    exact le_ret (by first | rfl | (simp only [EN, brokerlaw49_awake_out]; done) | (simp only [EN, brokerlaw49_awake_out]; rfl))
theorem brokerlaw49_awake_j4_ok (b0 : api_Conn) : Le (Option.map brokerlaw49_awake_out (brokerlaw49_awake_j4 b0)) (Q7_4 (api_Conn.enc b0)) := by
  refine Le.trans ?_ (le_of_eq ((lab_realC Cr7).trans (T7_4 _ _ _ _ _ _ _ _  b0)).symm)
  unfold brokerlaw49_awake_j4
  refine le_call (good := good) (fun y => ⟨y, rfl⟩) conn_Receive_inj (by first | (simp only [EN]; exact conn_Receive_ok b0 ((api_Packet.mk 1 0 false (api_Message.mk ([] : Str) ([] : Str) 0 false 0 0 ([] : Str) 0 ([] : List api_Prop)) ([99] : Str) ([] : Str) false 10 0 4 (api_Will.mk false 0 (api_Message.mk ([] : Str) ([] : Str) 0 false 0 0 ([] : Str) 0 ([] : List api_Prop))) false 0 ([] : List api_Sub) ([] : List Str) ([] : List Int))) 100) | exact conn_Receive_ok b0 ((api_Packet.mk 1 0 false (api_Message.mk ([] : Str) ([] : Str) 0 false 0 0 ([] : Str) 0 ([] : List api_Prop)) ([99] : Str) ([] : Str) false 10 0 4 (api_Will.mk false 0 (api_Message.mk ([] : Str) ([] : Str) 0 false 0 0 ([] : Str) 0 ([] : List api_Prop))) false 0 ([] : List api_Sub) ([] : List Str) ([] : List Int))) 100) (fun r3 _ => ?_)
  refine le_cond rfl (fun _ => ?_) (fun _ => ?_)
  · skip
    exact le_ret (by first | rfl | (simp only [EN, brokerlaw49_awake_out]; done) | (simp only [EN, brokerlaw49_awake_out]; rfl))
  · skip
    refine le_cond rfl (fun _ => ?_) (fun _ => ?_)
    · skip
      exact le_ret (by first | rfl | (simp only [EN, brokerlaw49_awake_out]; done) | (simp only [EN, brokerlaw49_awake_out]; rfl))
    · skip
      refine le_cond rfl (fun _ => ?_) (fun _ => ?_)
      · skip
        exact le_ret (by first | rfl | (simp only [EN, brokerlaw49_awake_out]; done) | (simp only [EN, brokerlaw49_awake_out]; rfl))
      · skip
        refine le_call (good := good) (fun y => ⟨y, rfl⟩) conn_Expired_inj (conn_Expired_ok r3.1 115) (fun r4 _ => ?_)
        refine le_cond rfl (fun _ => ?_) (fun _ => ?_)
        · skip
          exact le_ret (by first | rfl | (simp only [EN, brokerlaw49_awake_out]; done) | (simp only [EN, brokerlaw49_awake_out]; rfl))
        · skip
          refine le_call (good := good) (fun y => ⟨y, rfl⟩) conn_Expired_inj (conn_Expired_ok r3.1 116) (fun r5 _ => ?_)
          refine le_cond rfl (fun _ => ?_) (fun _ => ?_)
          · skip
            exact le_ret (by first | rfl | (simp only [EN, brokerlaw49_awake_out]; done) | (simp only [EN, brokerlaw49_awake_out]; rfl))
          · skip
            first | (simp only [EN]; exact brokerlaw49_awake_j8_ok ((api_Packet.mk 1 0 false (api_Message.mk ([] : Str) ([] : Str) 0 false 0 0 ([] : Str) 0 ([] : List api_Prop)) ([99] : Str) ([] : Str) false 10 0 4 (api_Will.mk false 0 (api_Message.mk ([] : Str) ([] : Str) 0 false 0 0 ([] : Str) 0 ([] : List api_Prop))) false 0 ([] : List api_Sub) ([] : List Str) ([] : List Int))) r3.1) | exact brokerlaw49_awake_j8_ok ((api_Packet.mk 1 0 false (api_Message.mk ([] : Str) ([] : Str) 0 false 0 0 ([] : Str) 0 ([] : List api_Prop)) ([99] : Str) ([] : Str) false 10 0 4 (api_Will.mk false 0 (api_Message.mk ([] : Str) ([] : Str) 0 false 0 0 ([] : Str) 0 ([] : List api_Prop))) false 0 ([] : List api_Sub) ([] : List Str) ([] : List Int))) r3.1
theorem brokerlaw49_awake_ok : Le (Option.map brokerlaw49_awake_out (brokerlaw49_awake)) (callW SE 7 [] [] []) := by
  refine le_bodyC Cr7 ?_
  refine Le.trans ?_ (le_of_eq (T7 _ _ _ _ _ _ _ _ ).symm)
  unfold brokerlaw49_awake
  refine le_call (good := good) (fun y => ⟨y, rfl⟩) conn_New_inj (conn_New_ok 7 100) (fun r0 _ => ?_)
  refine le_cond rfl (fun _ => ?_) (fun _ => ?_)
  · skip
    exact le_ret (by first | rfl | (simp only [EN, brokerlaw49_awake_out]; done) | (simp only [EN, brokerlaw49_awake_out]; rfl))
  · skip
    refine le_cond rfl (fun _ => ?_) (fun _ => ?_)
    · skip
      exact le_ret (by first | rfl | (simp only [EN, brokerlaw49_awake_out]; done) | (simp only [EN, brokerlaw49_awake_out]; rfl))
    · skip
      refine le_cond rfl (fun _ => ?_) (fun _ => ?_)
      · skip
        exact le_ret (by first | rfl | (simp only [EN, brokerlaw49_awake_out]; done) | (simp only [EN, brokerlaw49_awake_out]; rfl))
      · skip
        refine le_call (good := good) (fun y => ⟨y, rfl⟩) conn_Expired_inj (conn_Expired_ok r0 111) (fun r1 _ => ?_)
        refine le_cond rfl (fun _ => ?_) (fun _ => ?_)
        · skip
          exact le_ret (by first | rfl | (simp only [EN, brokerlaw49_awake_out]; done) | (simp only [EN, brokerlaw49_awake_out]; rfl))
        · skip
          refine le_call (good := good) (fun y => ⟨y, rfl⟩) conn_Expired_inj (conn_Expired_ok r0 110) (fun r2 _ => ?_)
          refine le_cond rfl (fun _ => ?_) (fun _ => ?_)
          · skip
            exact le_ret (by first | rfl | (simp only [EN, brokerlaw49_awake_out]; done) | (simp only [EN, brokerlaw49_awake_out]; rfl))
          · skip
            exact brokerlaw49_awake_j4_ok r0
def C37 (Γ : Fun)  : CFun := bindC Γ
theorem T37 (Γ : Fun)  (Λ2 J : Lam) (p0 : Int) : bodyC SE (C37 Γ) Λ2 J 37 [.d (.int .u8 p0)] [] [] =
  cond (decide (p0 ≥ 97)) (
   (some (.ret [.d (.bool (decide (p0 ≤ 122)))] [] []))) (
  (some (.ret [.d (.bool false)] [] []))) := by kernel_rfl
abbrev X37 : CFun := C37 (callG SE good)
theorem Cr37 : C37 (callG SE good) = bindC (callG SE good) := by unfold C37; rfl
theorem brokerref01_lower_ok (p0 : Int) : Le (Option.map brokerref01_lower_out (brokerref01_lower p0)) (callW SE 37 [.d (.int .u8 p0)] [] []) := by
  refine le_bodyC Cr37 ?_
  refine Le.trans ?_ (le_of_eq (T37 _ _ _  p0).symm)
  unfold brokerref01_lower
  refine le_cond rfl (fun _ => ?_) (fun _ => ?_)
  · skip
    exact le_ret (by first | rfl | (simp only [EN, brokerref01_lower_out]; done) | (simp only [EN, brokerref01_lower_out]; rfl))
  · skip
    exact le_ret (by first | rfl | (simp only [EN, brokerref01_lower_out]; done) | (simp only [EN, brokerref01_lower_out]; rfl))
def C38 (Γ : Fun)  : CFun := bindC Γ
theorem T38 (Γ : Fun)  (Λ2 J : Lam) (p0 : Int) : bodyC SE (C38 Γ) Λ2 J 38 [.d (.int .u8 p0)] [] [] =
  cond (decide (p0 ≥ 48)) (
   (some (.ret [.d (.bool (decide (p0 ≤ 57)))] [] []))) (
  (some (.ret [.d (.bool false)] [] []))) := by kernel_rfl
abbrev X38 : CFun := C38 (callG SE good)
theorem Cr38 : C38 (callG SE good) = bindC (callG SE good) := by unfold C38; rfl
theorem brokerref01_digit_ok (p0 : Int) : Le (Option.map brokerref01_digit_out (brokerref01_digit p0)) (callW SE 38 [.d (.int .u8 p0)] [] []) := by
  refine le_bodyC Cr38 ?_
  refine Le.trans ?_ (le_of_eq (T38 _ _ _  p0).symm)
  unfold brokerref01_digit
  refine le_cond rfl (fun _ => ?_) (fun _ => ?_)
  · skip
    exact le_ret (by first | rfl | (simp only [EN, brokerref01_digit_out]; done) | (simp only [EN, brokerref01_digit_out]; rfl))
  · skip
    exact le_ret (by first | rfl | (simp only [EN, brokerref01_digit_out]; done) | (simp only [EN, brokerref01_digit_out]; rfl))
def C24 (Γ : Fun) (γ37 : Gm (Bool)) (γ38 : Gm (Bool)) : CFun := updC (updC (bindC Γ) 37 brokerref01_lower_out γ37) 38 brokerref01_digit_out γ38
def R24_4 (C : CFun) (Λ2 J : Lam) (a0 : Str) (a1 : Int) : Res := lab SE C Λ2 J 24 0 [1, 1, 0, 1, 0] (stoOf [(0, .d (.str a0)), (3, .d (.int .i64 a1))] [] [] [] [])
def R24_3 (C : CFun) (Λ2 J : Lam) (a0 : Str) : Res := lab SE C Λ2 J 24 0 [1, 1, 0, 0] (stoOf [(0, .d (.str a0))] [] [] [] [])
theorem T24 (Γ : Fun) (γ37 : Gm (Bool)) (γ38 : Gm (Bool)) (Λ2 J : Lam) (p0 : Str) : bodyC SE (C24 Γ γ37 γ38) Λ2 J 24 [.d (.str p0)] [] [] =
  cond (decide ((List.length p0 : Int) < 1)) (
   (some (.ret [.d (.bool false)] [] []))) (
  cond (decide ((List.length p0 : Int) > 16)) (
   (some (.ret [.d (.bool false)] [] []))) (
  cond (decide (0 ≤ 0) && decide (0 < (List.length p0 : Int))) (
   γ37 [.d (.int .u8 (UInt8.toNat (List.getD p0 (Int.toNat 0) 0) : Int))] [] [] fun r0 =>
   cond (!r0) (
    (some (.ret [.d (.bool false)] [] []))) (
   R24_3 (C24 Γ γ37 γ38) Λ2 J p0)) none)) := by kernel_rfl
theorem T24_4 (Γ : Fun) (γ37 : Gm (Bool)) (γ38 : Gm (Bool)) (Λ2 J : Lam) (x0 : Str) (x3 : Int) : labU SE (C24 Γ γ37 γ38) Λ2 J 24 0 [1, 1, 0, 1, 0] (stoOf [(0, .d (.str x0)), (3, .d (.int .i64 x3))] [] [] [] []) =
  cond (decide (x3 < (List.length x0 : Int))) (
   cond (decide (0 ≤ x3) && decide (x3 < (List.length x0 : Int))) (
    γ37 [.d (.int .u8 (UInt8.toNat (List.getD x0 (Int.toNat x3) 0) : Int))] [] [] fun r1 =>
    cond (!r1) (
     cond (decide (0 ≤ x3) && decide (x3 < (List.length x0 : Int))) (
      γ38 [.d (.int .u8 (UInt8.toNat (List.getD x0 (Int.toNat x3) 0) : Int))] [] [] fun r2 =>
      cond (!r2) (
       cond (decide (0 ≤ x3) && decide (x3 < (List.length x0 : Int))) (
        cond ((UInt8.toNat (List.getD x0 (Int.toNat x3) 0) : Int) != 45) (
         (some (.ret [.d (.bool false)] [] []))) (
        R24_4 (C24 Γ γ37 γ38) Λ2 J x0 (IntKind.wrap .i64 (x3 + 1)))) none) (
      R24_4 (C24 Γ γ37 γ38) Λ2 J x0 (IntKind.wrap .i64 (x3 + 1)))) none) (
    R24_4 (C24 Γ γ37 γ38) Λ2 J x0 (IntKind.wrap .i64 (x3 + 1)))) none) (
  (some (.ret [.d (.bool true)] [] []))) := by kernel_rfl
theorem T24_3 (Γ : Fun) (γ37 : Gm (Bool)) (γ38 : Gm (Bool)) (Λ2 J : Lam) (x0 : Str) : labU SE (C24 Γ γ37 γ38) Λ2 J 24 0 [1, 1, 0, 0] (stoOf [(0, .d (.str x0))] [] [] [] []) =
  R24_4 (C24 Γ γ37 γ38) Λ2 J x0 0 := by kernel_rfl
abbrev X24 : CFun := C24 (callG SE good) (callT SE good 37 brokerref01_lower_out) (callT SE good 38 brokerref01_digit_out)
theorem Cr24 : C24 (callG SE good) (callT SE good 37 brokerref01_lower_out) (callT SE good 38 brokerref01_digit_out) = bindC (callG SE good) := by unfold C24; rw [updC_real (fun _ h => h), updC_real (fun _ h => h)]
noncomputable abbrev Q24_4 (a0 : Str) (a1 : Int) : Res := R24_4 X24 (lam2 SE (callG SE good) (SE.hl 24) (SE.hr 24)) (J0 SE X24) a0 a1
noncomputable abbrev Q24_3 (a0 : Str) : Res := R24_3 X24 (lam2 SE (callG SE good) (SE.hl 24) (SE.hr 24)) (J0 SE X24) a0
theorem brokerref01_Name_l4_ok : ∀ (fu : Nat) (x0 : Str) (x3 : Int), Le (Option.map brokerref01_Name_out (brokerref01_Name_l4 fu x0 x3)) (Q24_4 x0 x3) := by
  intro fu
  induction fu with
  | zero => intros; exact le_none
  | succ fu ih =>
    intro x0 x3
    refine Le.trans ?_ (le_of_eq ((lab_realC Cr24).trans (T24_4 _ _ _ _ _  x0 x3)).symm)
    unfold brokerref01_Name_l4
    refine le_cond rfl (fun _ => ?_) (fun _ => ?_)
    · skip
      refine le_cond rfl (fun _ => ?_) (fun _ => le_none)
      refine le_call (good := good) (fun y => ⟨y, rfl⟩) brokerref01_lower_inj (brokerref01_lower_ok (UInt8.toNat (List.getD x0 (Int.toNat x3) 0) : Int)) (fun r1 _ => ?_)
      refine le_cond rfl (fun _ => ?_) (fun _ => ?_)
      · skip
        refine le_cond rfl (fun _ => ?_) (fun _ => le_none)
        refine le_call (good := good) (fun y => ⟨y, rfl⟩) brokerref01_digit_inj (brokerref01_digit_ok (UInt8.toNat (List.getD x0 (Int.toNat x3) 0) : Int)) (fun r2 _ => ?_)
        refine le_cond rfl (fun _ => ?_) (fun _ => ?_)
        · skip
          refine le_cond rfl (fun _ => ?_) (fun _ => le_none)
          refine le_cond rfl (fun _ => ?_) (fun _ => ?_)
          · skip
            exact le_ret (by first | rfl | (simp only [EN, brokerref01_Name_out]; done) | (simp only [EN, brokerref01_Name_out]; rfl))
          · skip
            exact ih x0 (IntKind.wrap .i64 (x3 + 1))
        · skip
          exact ih x0 (IntKind.wrap .i64 (x3 + 1))
      · skip
        exact ih x0 (IntKind.wrap .i64 (x3 + 1))
    · skip
      exact le_ret (by first | rfl | (simp only [EN, brokerref01_Name_out]; done) | (simp only [EN, brokerref01_Name_out]; rfl))
theorem brokerref01_Name_j3_ok (x0 : Str) : Le (Option.map brokerref01_Name_out (brokerref01_Name_j3 x0)) (Q24_3 x0) := by
  refine Le.trans ?_ (le_of_eq ((lab_realC Cr24).trans (T24_3 _ _ _ _ _  x0)).symm)
  unfold brokerref01_Name_j3
  exact brokerref01_Name_l4_ok fuel x0 0
theorem brokerref01_Name_ok (p0 : Str) : Le (Option.map brokerref01_Name_out (brokerref01_Name p0)) (callW SE 24 [.d (.str p0)] [] []) := by
  refine le_bodyC Cr24 ?_
  refine Le.trans ?_ (le_of_eq (T24 _ _ _ _ _  p0).symm)
  unfold brokerref01_Name
  refine le_cond rfl (fun _ => ?_) (fun _ => ?_)
  · skip
    exact le_ret (by first | rfl | (simp only [EN, brokerref01_Name_out]; done) | (simp only [EN, brokerref01_Name_out]; rfl))
  · skip
    refine le_cond rfl (fun _ => ?_) (fun _ => ?_)
    · skip
      exact le_ret (by first | rfl | (simp only [EN, brokerref01_Name_out]; done) | (simp only [EN, brokerref01_Name_out]; rfl))
    · skip
      refine le_cond rfl (fun _ => ?_) (fun _ => le_none)
      refine le_call (good := good) (fun y => ⟨y, rfl⟩) brokerref01_lower_inj (brokerref01_lower_ok (UInt8.toNat (List.getD p0 (Int.toNat 0) 0) : Int)) (fun r0 _ => ?_)
      refine le_cond rfl (fun _ => ?_) (fun _ => ?_)
      · skip
        exact le_ret (by first | rfl | (simp only [EN, brokerref01_Name_out]; done) | (simp only [EN, brokerref01_Name_out]; rfl))
      · skip
        exact brokerref01_Name_j3_ok p0
def C9 (Γ : Fun) (γ24 : Gm (Bool)) : CFun := updC (bindC Γ) 24 brokerref01_Name_out γ24
def R9_9 (C : CFun) (Λ2 J : Lam) (a0 : (List D)) : Res := lab SE C Λ2 J 9 0 [1, 1, 1, 1, 1, 0, 0] (stoOf [(1, .ptr 1000000000 0)] [⟨23, (List.map AV.d a0)⟩] [] [] [])
def R9_7 (C : CFun) (Λ2 J : Lam) (a0 : (List D)) : Res := lab SE C Λ2 J 9 0 [1, 1, 1, 1, 0, 0] (stoOf [(1, .ptr 1000000000 0)] [⟨23, (List.map AV.d a0)⟩] [] [] [])
def R9_5 (C : CFun) (Λ2 J : Lam) (a0 : (List D)) : Res := lab SE C Λ2 J 9 0 [1, 1, 1, 0, 0] (stoOf [(1, .ptr 1000000000 0)] [⟨23, (List.map AV.d a0)⟩] [] [] [])
def R9_3 (C : CFun) (Λ2 J : Lam) (a0 : (List D)) : Res := lab SE C Λ2 J 9 0 [1, 1, 0, 0] (stoOf [(1, .ptr 1000000000 0)] [⟨23, (List.map AV.d a0)⟩] [] [] [])
theorem T9 (Γ : Fun) (γ24 : Gm (Bool)) (Λ2 J : Lam) (p0 : api_Conn) : bodyC SE (C9 Γ γ24) Λ2 J 9 [api_Conn.av p0] [] [] =
  cond (decide (p0.ID < 0)) (
   (some (.ret [.d (.int .i64 1)] [] []))) (
  cond (decide (p0.ID > 1099511627776)) (
   (some (.ret [.d (.int .i64 1)] [] []))) (
  R9_3 (C9 Γ γ24) Λ2 J (api_Conn.enc p0))) := by kernel_rfl
theorem T9_9 (Γ : Fun) (γ24 : Gm (Bool)) (Λ2 J : Lam) (b0 : api_Conn) : labU SE (C9 Γ γ24) Λ2 J 9 0 [1, 1, 1, 1, 1, 0, 0] (stoOf [(1, .ptr 1000000000 0)] [⟨23, (List.map AV.d (api_Conn.enc b0))⟩] [] [] []) =
  cond (b0.State == 1) (
   γ24 [.d (.str b0.Client)] [] [] fun r0 =>
   cond (!r0) (
    (some (.ret [.d (.int .i64 11)] [] []))) (
   cond (!(b0.User == ([] : Str))) (
    γ24 [.d (.str b0.User)] [] [] fun r1 =>
    cond (!r1) (
     (some (.ret [.d (.int .i64 11)] [] []))) (
    (some (.ret [.d (.int .i64 0)] [] [])))) (
   (some (.ret [.d (.int .i64 0)] [] []))))) (
  (some (.ret [.d (.int .i64 0)] [] []))) := by kernel_rfl
theorem T9_7 (Γ : Fun) (γ24 : Gm (Bool)) (Λ2 J : Lam) (b0 : api_Conn) : labU SE (C9 Γ γ24) Λ2 J 9 0 [1, 1, 1, 1, 0, 0] (stoOf [(1, .ptr 1000000000 0)] [⟨23, (List.map AV.d (api_Conn.enc b0))⟩] [] [] []) =
  cond (b0.State == 0) (
   cond (!(b0.Client == ([] : Str))) (
    (some (.ret [.d (.int .i64 28)] [] []))) (
   cond (!(b0.User == ([] : Str))) (
    (some (.ret [.d (.int .i64 28)] [] []))) (
   cond (b0.Keep != 0) (
    (some (.ret [.d (.int .i64 28)] [] []))) (
   cond b0.Clean (
    (some (.ret [.d (.int .i64 28)] [] []))) (
   R9_9 (C9 Γ γ24) Λ2 J (api_Conn.enc b0)))))) (
  R9_9 (C9 Γ γ24) Λ2 J (api_Conn.enc b0)) := by kernel_rfl
theorem T9_5 (Γ : Fun) (γ24 : Gm (Bool)) (Λ2 J : Lam) (b0 : api_Conn) : labU SE (C9 Γ γ24) Λ2 J 9 0 [1, 1, 1, 0, 0] (stoOf [(1, .ptr 1000000000 0)] [⟨23, (List.map AV.d (api_Conn.enc b0))⟩] [] [] []) =
  cond (decide (b0.Keep < 0)) (
   (some (.ret [.d (.int .i64 1)] [] []))) (
  cond (decide (b0.Keep > 1099511627776)) (
   (some (.ret [.d (.int .i64 1)] [] []))) (
  cond (decide (b0.Last < 0)) (
   (some (.ret [.d (.int .i64 1)] [] []))) (
  cond (decide (b0.Last > 1099511627776)) (
   (some (.ret [.d (.int .i64 1)] [] []))) (
  R9_7 (C9 Γ γ24) Λ2 J (api_Conn.enc b0))))) := by kernel_rfl
theorem T9_3 (Γ : Fun) (γ24 : Gm (Bool)) (Λ2 J : Lam) (b0 : api_Conn) : labU SE (C9 Γ γ24) Λ2 J 9 0 [1, 1, 0, 0] (stoOf [(1, .ptr 1000000000 0)] [⟨23, (List.map AV.d (api_Conn.enc b0))⟩] [] [] []) =
  cond (b0.State != 0) (
   cond (b0.State != 1) (
    cond (b0.State != 2) (
     (some (.ret [.d (.int .i64 10)] [] []))) (
    R9_5 (C9 Γ γ24) Λ2 J (api_Conn.enc b0))) (
   R9_5 (C9 Γ γ24) Λ2 J (api_Conn.enc b0))) (
  R9_5 (C9 Γ γ24) Λ2 J (api_Conn.enc b0)) := by kernel_rfl
abbrev X9 : CFun := C9 (callG SE good) (callT SE good 24 brokerref01_Name_out)
theorem Cr9 : C9 (callG SE good) (callT SE good 24 brokerref01_Name_out) = bindC (callG SE good) := by unfold C9; rw [updC_real (fun _ h => h)]
noncomputable abbrev Q9_9 (a0 : (List D)) : Res := R9_9 X9 (lam2 SE (callG SE good) (SE.hl 9) (SE.hr 9)) (J0 SE X9) a0
noncomputable abbrev Q9_7 (a0 : (List D)) : Res := R9_7 X9 (lam2 SE (callG SE good) (SE.hl 9) (SE.hr 9)) (J0 SE X9) a0
noncomputable abbrev Q9_5 (a0 : (List D)) : Res := R9_5 X9 (lam2 SE (callG SE good) (SE.hl 9) (SE.hr 9)) (J0 SE X9) a0
noncomputable abbrev Q9_3 (a0 : (List D)) : Res := R9_3 X9 (lam2 SE (callG SE good) (SE.hl 9) (SE.hr 9)) (J0 SE X9) a0
theorem brokerref49_Check_j9_ok (b0 : api_Conn) : Le (Option.map brokerref49_Check_out (brokerref49_Check_j9 b0)) (Q9_9 (api_Conn.enc b0)) := by
  refine Le.trans ?_ (le_of_eq ((lab_realC Cr9).trans (T9_9 _ _ _ _  b0)).symm)
  unfold brokerref49_Check_j9
  refine le_cond rfl (fun _ => ?_) (fun _ => ?_)
  · skip
    refine le_call (good := good) (fun y => ⟨y, rfl⟩) brokerref01_Name_inj (brokerref01_Name_ok b0.Client) (fun r0 _ => ?_)
    refine le_cond rfl (fun _ => ?_) (fun _ => ?_)
    · skip
      exact le_ret (by first | rfl | (simp only [EN, brokerref49_Check_out]; done) | (simp only [EN, brokerref49_Check_out]; rfl))
    · skip
      refine le_cond rfl (fun _ => ?_) (fun _ => ?_)
      · skip
        refine le_call (good := good) (fun y => ⟨y, rfl⟩) brokerref01_Name_inj (brokerref01_Name_ok b0.User) (fun r1 _ => ?_)
        refine le_cond rfl (fun _ => ?_) (fun _ => ?_)
        · skip
          exact le_ret (by first | rfl | (simp only [EN, brokerref49_Check_out]; done) | (simp only [EN, brokerref49_Check_out]; rfl))
        · skip
          exact le_ret (by first | rfl | (simp only [EN, brokerref49_Check_out]; done) | (simp only [EN, brokerref49_Check_out]; rfl))
      · skip
        exact le_ret (by first | rfl | (simp only [EN, brokerref49_Check_out]; done) | (simp only [EN, brokerref49_Check_out]; rfl))
  · skip
    exact le_ret (by first | rfl | (simp only [EN, brokerref49_Check_out]; done) | (simp only [EN, brokerref49_Check_out]; rfl))
theorem brokerref49_Check_j7_ok (b0 : api_Conn) : Le (Option.map brokerref49_Check_out (brokerref49_Check_j7 b0)) (Q9_7 (api_Conn.enc b0)) := by
  refine Le.trans ?_ (le_of_eq ((lab_realC Cr9).trans (T9_7 _ _ _ _  b0)).symm)
  unfold brokerref49_Check_j7
  refine le_cond rfl (fun _ => ?_) (fun _ => ?_)
  · skip
    refine le_cond rfl (fun _ => ?_) (fun _ => ?_)
    · skip
      exact le_ret (by first | rfl | (simp only [EN, brokerref49_Check_out]; done) | (simp only [EN, brokerref49_Check_out]; rfl))
    · skip
      refine le_cond rfl (fun _ => ?_) (fun _ => ?_)
      · skip
        exact le_ret (by first | rfl | (simp only [EN, brokerref49_Check_out]; done) | (simp only [EN, brokerref49_Check_out]; rfl))
      · skip
        refine le_cond rfl (fun _ => ?_) (fun _ => ?_)
        · skip
          exact le_ret (by first | rfl | (simp only [EN, brokerref49_Check_out]; done) | (simp only [EN, brokerref49_Check_out]; rfl))
        · skip
          refine le_cond rfl (fun _ => ?_) (fun _ => ?_)
          · skip
            exact le_ret (by first | rfl | (simp only [EN, brokerref49_Check_out]; done) | (simp only [EN, brokerref49_Check_out]; rfl))
          · skip
            exact brokerref49_Check_j9_ok b0
  · skip
    exact brokerref49_Check_j9_ok b0
theorem brokerref49_Check_j5_ok (b0 : api_Conn) : Le (Option.map brokerref49_Check_out (brokerref49_Check_j5 b0)) (Q9_5 (api_Conn.enc b0)) := by
  refine Le.trans ?_ (le_of_eq ((lab_realC Cr9).trans (T9_5 _ _ _ _  b0)).symm)
  unfold brokerref49_Check_j5
  refine le_cond rfl (fun _ => ?_) (fun _ => ?_)
  · skip
    exact le_ret (by first | rfl | (simp only [EN, brokerref49_Check_out]; done) | (simp only [EN, brokerref49_Check_out]; rfl))
  · skip
    refine le_cond rfl (fun _ => ?_) (fun _ => ?_)
    · skip
      exact le_ret (by first | rfl | (simp only [EN, brokerref49_Check_out]; done) | (simp only [EN, brokerref49_Check_out]; rfl))
    · skip
      refine le_cond rfl (fun _ => ?_) (fun _ => ?_)
      · skip
        exact le_ret (by first | rfl | (simp only [EN, brokerref49_Check_out]; done) | (simp only [EN, brokerref49_Check_out]; rfl))
      · skip
        refine le_cond rfl (fun _ => ?_) (fun _ => ?_)
        · skip
          exact le_ret (by first | rfl | (simp only [EN, brokerref49_Check_out]; done) | (simp only [EN, brokerref49_Check_out]; rfl))
        · skip
          exact brokerref49_Check_j7_ok b0
theorem brokerref49_Check_j3_ok (b0 : api_Conn) : Le (Option.map brokerref49_Check_out (brokerref49_Check_j3 b0)) (Q9_3 (api_Conn.enc b0)) := by
  refine Le.trans ?_ (le_of_eq ((lab_realC Cr9).trans (T9_3 _ _ _ _  b0)).symm)
  unfold brokerref49_Check_j3
  refine le_cond rfl (fun _ => ?_) (fun _ => ?_)
  · skip
    refine le_cond rfl (fun _ => ?_) (fun _ => ?_)
    · skip
      refine le_cond rfl (fun _ => ?_) (fun _ => ?_)
      · skip
        exact le_ret (by first | rfl | (simp only [EN, brokerref49_Check_out]; done) | (simp only [EN, brokerref49_Check_out]; rfl))
      · skip
        exact brokerref49_Check_j5_ok b0
    · skip
      exact brokerref49_Check_j5_ok b0
  · skip
    exact brokerref49_Check_j5_ok b0
theorem brokerref49_Check_ok (p0 : api_Conn) : Le (Option.map brokerref49_Check_out (brokerref49_Check p0)) (callW SE 9 [api_Conn.av p0] [] []) := by
  refine le_bodyC Cr9 ?_
  refine Le.trans ?_ (le_of_eq (T9 _ _ _ _  p0).symm)
  unfold brokerref49_Check
  refine le_cond rfl (fun _ => ?_) (fun _ => ?_)
  · skip
    exact le_ret (by first | rfl | (simp only [EN, brokerref49_Check_out]; done) | (simp only [EN, brokerref49_Check_out]; rfl))
  · skip
    refine le_cond rfl (fun _ => ?_) (fun _ => ?_)
    · skip
      exact le_ret (by first | rfl | (simp only [EN, brokerref49_Check_out]; done) | (simp only [EN, brokerref49_Check_out]; rfl))
    · skip
      exact brokerref49_Check_j3_ok p0
def C11 (Γ : Fun)  : CFun := bindC Γ
theorem T11 (Γ : Fun)  (Λ2 J : Lam) (p0 : api_Conn) : bodyC SE (C11 Γ) Λ2 J 11 [api_Conn.av p0] [] [] =
  (some (.ret [api_Conn.av (api_Conn.mk p0.ID 2 p0.Client p0.User p0.Keep p0.Last p0.Clean)] [] [])) := by kernel_rfl
abbrev X11 : CFun := C11 (callG SE good)
theorem Cr11 : C11 (callG SE good) = bindC (callG SE good) := by unfold C11; rfl
theorem brokerref49_Close_ok (p0 : api_Conn) : Le (Option.map brokerref49_Close_out (brokerref49_Close p0)) (callW SE 11 [api_Conn.av p0] [] []) := by
  refine le_bodyC Cr11 ?_
  refine Le.trans ?_ (le_of_eq (T11 _ _ _  p0).symm)
  unfold brokerref49_Close
  exact le_ret (by first | rfl | (simp only [EN, brokerref49_Close_out]; done) | (simp only [EN, brokerref49_Close_out]; rfl))
def C13 (Γ : Fun)  : CFun := bindC Γ
theorem T13 (Γ : Fun)  (Λ2 J : Lam) (p0 : Int) (p1 : Int) : bodyC SE (C13 Γ) Λ2 J 13 [.d (.int .i64 p0), .d (.int .i64 p1)] [] [] =
  (some (.ret [api_Conn.av (api_Conn.mk p0 0 ([] : Str) ([] : Str) 0 p1 false)] [] [])) := by kernel_rfl
abbrev X13 : CFun := C13 (callG SE good)
theorem Cr13 : C13 (callG SE good) = bindC (callG SE good) := by unfold C13; rfl
theorem brokerref49_New_ok (p0 : Int) (p1 : Int) : Le (Option.map brokerref49_New_out (brokerref49_New p0 p1)) (callW SE 13 [.d (.int .i64 p0), .d (.int .i64 p1)] [] []) := by
  refine le_bodyC Cr13 ?_
  refine Le.trans ?_ (le_of_eq (T13 _ _ _  p0 p1).symm)
  unfold brokerref49_New
  exact le_ret (by first | rfl | (simp only [EN, brokerref49_New_out]; done) | (simp only [EN, brokerref49_New_out]; rfl))
def C3 (Γ : Fun) (γ7 : Gm (Bool)) (γ8 : Gm (Int)) (γ9 : Gm (Int)) (γ10 : Gm (api_Conn)) (γ11 : Gm (api_Conn)) (γ12 : Gm (api_Conn)) (γ13 : Gm (api_Conn)) : CFun := updC (updC (updC (updC (updC (updC (updC (bindC Γ) 7 brokerlaw49_awake_out γ7) 8 conn_Check_out γ8) 9 brokerref49_Check_out γ9) 10 conn_Close_out γ10) 11 brokerref49_Close_out γ11) 12 conn_New_out γ12) 13 brokerref49_New_out γ13
theorem T3 (Γ : Fun) (γ7 : Gm (Bool)) (γ8 : Gm (Int)) (γ9 : Gm (Int)) (γ10 : Gm (api_Conn)) (γ11 : Gm (api_Conn)) (γ12 : Gm (api_Conn)) (γ13 : Gm (api_Conn)) (Λ2 J : Lam) (p0 : api_Conn) (p1 : Int) (p2 : Int) : bodyC SE (C3 Γ γ7 γ8 γ9 γ10 γ11 γ12 γ13) Λ2 J 3 [api_Conn.av p0, .d (.int .i64 p1), .d (.int .i64 p2)] [] [] =
  γ7 [] [] [] fun r0 =>
  cond r0 (
   γ8 [api_Conn.av p0] [] [] fun r1 =>
   γ9 [api_Conn.av p0] [] [] fun r2 =>
   cond (r1 == r2) (
    γ10 [api_Conn.av p0] [] [] fun r3 =>
    γ11 [api_Conn.av p0] [] [] fun r4 =>
    cond ((r3.ID == r4.ID) && ((r3.State == r4.State) && ((r3.Client == r4.Client) && ((r3.User == r4.User) && ((r3.Keep == r4.Keep) && ((r3.Last == r4.Last) && ((r3.Clean == r4.Clean) && true))))))) (
     γ12 [.d (.int .i64 p1), .d (.int .i64 p2)] [] [] fun r5 =>
     γ13 [.d (.int .i64 p1), .d (.int .i64 p2)] [] [] fun r6 =>
     (some (.ret [.d (.bool ((r5.ID == r6.ID) && ((r5.State == r6.State) && ((r5.Client == r6.Client) && ((r5.User == r6.User) && ((r5.Keep == r6.Keep) && ((r5.Last == r6.Last) && ((r5.Clean == r6.Clean) && true))))))))] [] []))) (
    (some (.ret [.d (.bool false)] [] [])))) (
   (some (.ret [.d (.bool false)] [] [])))) (
  (some (.ret [.d (.bool false)] [] []))) := by kernel_rfl
abbrev X3 : CFun := C3 (callG SE good) (callT SE good 7 brokerlaw49_awake_out) (callT SE good 8 conn_Check_out) (callT SE good 9 brokerref49_Check_out) (callT SE good 10 conn_Close_out) (callT SE good 11 brokerref49_Close_out) (callT SE good 12 conn_New_out) (callT SE good 13 brokerref49_New_out)
theorem Cr3 : C3 (callG SE good) (callT SE good 7 brokerlaw49_awake_out) (callT SE good 8 conn_Check_out) (callT SE good 9 brokerref49_Check_out) (callT SE good 10 conn_Close_out) (callT SE good 11 brokerref49_Close_out) (callT SE good 12 conn_New_out) (callT SE good 13 brokerref49_New_out) = bindC (callG SE good) := by unfold C3; rw [updC_real (fun _ h => h), updC_real (fun _ h => h), updC_real (fun _ h => h), updC_real (fun _ h => h), updC_real (fun _ h => h), updC_real (fun _ h => h), updC_real (fun _ h => h)]
theorem brokerlaw49_ConnChecks_ok (p0 : api_Conn) (p1 : Int) (p2 : Int) : Le (Option.map brokerlaw49_ConnChecks_out (brokerlaw49_ConnChecks p0 p1 p2)) (callW SE 3 [api_Conn.av p0, .d (.int .i64 p1), .d (.int .i64 p2)] [] []) := by
  refine le_bodyC Cr3 ?_
  refine Le.trans ?_ (le_of_eq (T3 _ _ _ _ _ _ _ _ _ _  p0 p1 p2).symm)
  unfold brokerlaw49_ConnChecks
  refine le_call (good := good) (fun y => ⟨y, rfl⟩) brokerlaw49_awake_inj (brokerlaw49_awake_ok) (fun r0 _ => ?_)
  refine le_cond rfl (fun _ => ?_) (fun _ => ?_)
  · skip
    refine le_call (good := good) (fun y => ⟨y, rfl⟩) conn_Check_inj (conn_Check_ok p0) (fun r1 _ => ?_)
    refine le_call (good := good) (fun y => ⟨y, rfl⟩) brokerref49_Check_inj (brokerref49_Check_ok p0) (fun r2 _ => ?_)
    refine le_cond rfl (fun _ => ?_) (fun _ => ?_)
    · skip
      refine le_call (good := good) (fun y => ⟨y, rfl⟩) conn_Close_inj (conn_Close_ok p0) (fun r3 _ => ?_)
      refine le_call (good := good) (fun y => ⟨y, rfl⟩) brokerref49_Close_inj (brokerref49_Close_ok p0) (fun r4 _ => ?_)
      refine le_cond rfl (fun _ => ?_) (fun _ => ?_)
      · skip
        refine le_call (good := good) (fun y => ⟨y, rfl⟩) conn_New_inj (conn_New_ok p1 p2) (fun r5 _ => ?_)
        refine le_call (good := good) (fun y => ⟨y, rfl⟩) brokerref49_New_inj (brokerref49_New_ok p1 p2) (fun r6 _ => ?_)
        exact le_ret (by first | rfl | (simp only [EN, brokerlaw49_ConnChecks_out]; done) | (simp only [EN, brokerlaw49_ConnChecks_out]; rfl))
      · skip
        exact le_ret (by first | rfl | (simp only [EN, brokerlaw49_ConnChecks_out]; done) | (simp only [EN, brokerlaw49_ConnChecks_out]; rfl))
    · skip
      exact le_ret (by first | rfl | (simp only [EN, brokerlaw49_ConnChecks_out]; done) | (simp only [EN, brokerlaw49_ConnChecks_out]; rfl))
  · skip
    exact le_ret (by first | rfl | (simp only [EN, brokerlaw49_ConnChecks_out]; done) | (simp only [EN, brokerlaw49_ConnChecks_out]; rfl))
def C14 (Γ : Fun)  : CFun := bindC Γ
def R14_2 (C : CFun) (Λ2 J : Lam) (a0 : (List (List D))) (a1 : Int) : Res := lab SE C Λ2 J 14 0 [1, 0, 1, 0] (stoOf [(0, .d (.sl api_Packet.ks a0)), (3, .d (.int .i64 a1))] [] [] [] [])
theorem T14 (Γ : Fun)  (Λ2 J : Lam) (p0 : (List api_Packet)) : bodyC SE (C14 Γ) Λ2 J 14 [.d (.sl api_Packet.ks (List.map api_Packet.enc p0))] [] [] =
  R14_2 (C14 Γ) Λ2 J (List.map api_Packet.enc p0) 0 := by kernel_rfl
theorem T14_2 (Γ : Fun)  (Λ2 J : Lam) (x0 : (List api_Packet)) (x3 : Int) : labU SE (C14 Γ) Λ2 J 14 0 [1, 0, 1, 0] (stoOf [(0, .d (.sl api_Packet.ks (List.map api_Packet.enc x0))), (3, .d (.int .i64 x3))] [] [] [] []) =
  cond (decide (x3 < (List.length (List.map api_Packet.enc x0) : Int))) (
   cond (decide (x3 ≥ 30)) (
    (some (.ret [.d (.bool false)] [] []))) (
   cond (decide (0 ≤ x3) && decide (x3 < (List.length (List.map api_Packet.enc x0) : Int))) (
    cond (decide ((List.length (dSl (cellAt (elemAt (List.map api_Packet.enc x0) (Int.toNat x3)) 31)) : Int) > 40)) (
     (some (.ret [.d (.bool false)] [] []))) (
    cond (decide (0 ≤ x3) && decide (x3 < (List.length (List.map api_Packet.enc x0) : Int))) (
     cond (decide ((List.length (dSl (cellAt (elemAt (List.map api_Packet.enc x0) (Int.toNat x3)) 32)) : Int) > 40)) (
      (some (.ret [.d (.bool false)] [] []))) (
     cond (decide (0 ≤ x3) && decide (x3 < (List.length (List.map api_Packet.enc x0) : Int))) (
      cond (decide ((List.length (dSl (cellAt (elemAt (List.map api_Packet.enc x0) (Int.toNat x3)) 33)) : Int) > 40)) (
       (some (.ret [.d (.bool false)] [] []))) (
      cond (decide (0 ≤ x3) && decide (x3 < (List.length (List.map api_Packet.enc x0) : Int))) (
       cond (decide ((List.length (dSl (cellAt (elemAt (List.map api_Packet.enc x0) (Int.toNat x3)) 11)) : Int) > 20)) (
        (some (.ret [.d (.bool false)] [] []))) (
       cond (decide (0 ≤ x3) && decide (x3 < (List.length (List.map api_Packet.enc x0) : Int))) (
        cond (decide ((List.length (dSl (cellAt (elemAt (List.map api_Packet.enc x0) (Int.toNat x3)) 28)) : Int) > 20)) (
         (some (.ret [.d (.bool false)] [] []))) (
        R14_2 (C14 Γ) Λ2 J (List.map api_Packet.enc x0) (IntKind.wrap .i64 (x3 + 1)))) none)) none)) none)) none)) none)) (
  (some (.ret [.d (.bool true)] [] []))) := by kernel_rfl
abbrev X14 : CFun := C14 (callG SE good)
theorem Cr14 : C14 (callG SE good) = bindC (callG SE good) := by unfold C14; rfl
noncomputable abbrev Q14_2 (a0 : (List (List D))) (a1 : Int) : Res := R14_2 X14 (lam2 SE (callG SE good) (SE.hl 14) (SE.hr 14)) (J0 SE X14) a0 a1
theorem brokerlaw49_light_l2_ok : ∀ (fu : Nat) (x0 : (List api_Packet)) (x3 : Int), Le (Option.map brokerlaw49_light_out (brokerlaw49_light_l2 fu x0 x3)) (Q14_2 (List.map api_Packet.enc x0) x3) := by
  intro fu
  induction fu with
  | zero => intros; exact le_none
  | succ fu ih =>
    intro x0 x3
    refine Le.trans ?_ (le_of_eq ((lab_realC Cr14).trans (T14_2 _ _ _  x0 x3)).symm)
    unfold brokerlaw49_light_l2
    refine le_cond (by simp only [EN]) (fun _ => ?_) (fun _ => ?_)
    · skip
      refine le_cond rfl (fun _ => ?_) (fun _ => ?_)
      · skip
        exact le_ret (by first | rfl | (simp only [EN, brokerlaw49_light_out]; done) | (simp only [EN, brokerlaw49_light_out]; rfl))
      · skip
        refine le_cond (by simp only [EN]) (fun _ => ?_) (fun _ => le_none)
        refine le_cond (by simp only [EN]) (fun _ => ?_) (fun _ => ?_)
        · skip
          exact le_ret (by first | rfl | (simp only [EN, brokerlaw49_light_out]; done) | (simp only [EN, brokerlaw49_light_out]; rfl))
        · skip
          refine le_cond (by simp only [EN]) (fun _ => ?_) (fun _ => le_none)
          refine le_cond (by simp only [EN]) (fun _ => ?_) (fun _ => ?_)
          · skip
            exact le_ret (by first | rfl | (simp only [EN, brokerlaw49_light_out]; done) | (simp only [EN, brokerlaw49_light_out]; rfl))
          · skip
            refine le_cond (by simp only [EN]) (fun _ => ?_) (fun _ => le_none)
            refine le_cond (by simp only [EN]) (fun _ => ?_) (fun _ => ?_)
            · skip
              exact le_ret (by first | rfl | (simp only [EN, brokerlaw49_light_out]; done) | (simp only [EN, brokerlaw49_light_out]; rfl))
            · skip
              refine le_cond (by simp only [EN]) (fun _ => ?_) (fun _ => le_none)
              refine le_cond (by simp only [EN]) (fun _ => ?_) (fun _ => ?_)
              · skip
                exact le_ret (by first | rfl | (simp only [EN, brokerlaw49_light_out]; done) | (simp only [EN, brokerlaw49_light_out]; rfl))
              · skip
                refine le_cond (by simp only [EN]) (fun _ => ?_) (fun _ => le_none)
                refine le_cond (by simp only [EN]) (fun _ => ?_) (fun _ => ?_)
                · skip
                  exact le_ret (by first | rfl | (simp only [EN, brokerlaw49_light_out]; done) | (simp only [EN, brokerlaw49_light_out]; rfl))
                · skip
                  exact ih x0 (IntKind.wrap .i64 (x3 + 1))
    · skip
      exact le_ret (by first | rfl | (simp only [EN, brokerlaw49_light_out]; done) | (simp only [EN, brokerlaw49_light_out]; rfl))
theorem brokerlaw49_light_ok (p0 : (List api_Packet)) : Le (Option.map brokerlaw49_light_out (brokerlaw49_light p0)) (callW SE 14 [.d (.sl api_Packet.ks (List.map api_Packet.enc p0))] [] []) := by
  refine le_bodyC Cr14 ?_
  refine Le.trans ?_ (le_of_eq (T14 _ _ _  p0).symm)
  unfold brokerlaw49_light
  exact brokerlaw49_light_l2_ok fuel p0 0
def C28 (Γ : Fun)  : CFun := bindC Γ
def R28_23 (C : CFun) (Λ2 J : Lam) (a0 : (List D)) (a1 : (List D)) (a2 : (List D)) : Res := lab SE C Λ2 J 28 0 [1, 1, 1, 1, 1, 1, 1, 1, 1, 0, 0] (stoOf [(1, .ptr 1000000000 0), (2, .ptr 1000000001 0), (3, .ptr 1000000002 0)] [⟨39, (List.map AV.d a0)⟩, ⟨39, (List.map AV.d a1)⟩, ⟨39, (List.map AV.d a2)⟩] [] [] [])
def R28_21 (C : CFun) (Λ2 J : Lam) (a0 : (List D)) (a1 : (List D)) (a2 : (List D)) : Res := lab SE C Λ2 J 28 0 [1, 1, 1, 1, 1, 1, 1, 1, 0, 0] (stoOf [(1, .ptr 1000000000 0), (2, .ptr 1000000001 0), (3, .ptr 1000000002 0)] [⟨39, (List.map AV.d a0)⟩, ⟨39, (List.map AV.d a1)⟩, ⟨39, (List.map AV.d a2)⟩] [] [] [])
def R28_19 (C : CFun) (Λ2 J : Lam) (a0 : (List D)) (a1 : (List D)) (a2 : (List D)) : Res := lab SE C Λ2 J 28 0 [1, 1, 1, 1, 1, 1, 1, 0, 0] (stoOf [(1, .ptr 1000000000 0), (2, .ptr 1000000001 0), (3, .ptr 1000000002 0)] [⟨39, (List.map AV.d a0)⟩, ⟨39, (List.map AV.d a1)⟩, ⟨39, (List.map AV.d a2)⟩] [] [] [])
def R28_16 (C : CFun) (Λ2 J : Lam) (a0 : (List D)) (a1 : (List D)) (a2 : (List D)) : Res := lab SE C Λ2 J 28 0 [1, 1, 1, 1, 1, 1, 0, 0] (stoOf [(1, .ptr 1000000000 0), (2, .ptr 1000000001 0), (3, .ptr 1000000002 0)] [⟨39, (List.map AV.d a0)⟩, ⟨39, (List.map AV.d a1)⟩, ⟨39, (List.map AV.d a2)⟩] [] [] [])
def R28_14 (C : CFun) (Λ2 J : Lam) (a0 : (List D)) (a1 : (List D)) (a2 : (List D)) : Res := lab SE C Λ2 J 28 0 [1, 1, 1, 1, 1, 0, 0] (stoOf [(1, .ptr 1000000000 0), (2, .ptr 1000000001 0), (3, .ptr 1000000002 0)] [⟨39, (List.map AV.d a0)⟩, ⟨39, (List.map AV.d a1)⟩, ⟨39, (List.map AV.d a2)⟩] [] [] [])
def R28_12 (C : CFun) (Λ2 J : Lam) (a0 : (List D)) (a1 : (List D)) (a2 : (List D)) : Res := lab SE C Λ2 J 28 0 [1, 1, 1, 1, 0, 0] (stoOf [(1, .ptr 1000000000 0), (2, .ptr 1000000001 0), (3, .ptr 1000000002 0)] [⟨39, (List.map AV.d a0)⟩, ⟨39, (List.map AV.d a1)⟩, ⟨39, (List.map AV.d a2)⟩] [] [] [])
def R28_4 (C : CFun) (Λ2 J : Lam) (a0 : (List D)) (a1 : (List D)) (a2 : (List D)) : Res := lab SE C Λ2 J 28 0 [1, 1, 1, 0, 0] (stoOf [(1, .ptr 1000000000 0), (2, .ptr 1000000001 0), (3, .ptr 1000000002 0)] [⟨39, (List.map AV.d a0)⟩, ⟨39, (List.map AV.d a1)⟩, ⟨39, (List.map AV.d a2)⟩] [] [] [])
theorem T28 (Γ : Fun)  (Λ2 J : Lam) (p0 : api_Packet) : bodyC SE (C28 Γ) Λ2 J 28 [api_Packet.av p0] [] [] =
  cond (p0.Kind == 3) (
   R28_4 (C28 Γ) Λ2 J (api_Packet.enc p0) [D.int .i64 0, D.int .i64 0, D.bool false, D.str ([] : Str), D.str ([] : Str), D.int .i64 0, D.bool false, D.int .i64 0, D.int .i64 0, D.str ([] : Str), D.int .i64 0, D.sl api_Prop.ks (List.map api_Prop.enc []), D.str ([] : Str), D.str ([] : Str), D.bool false, D.int .i64 0, D.int .i64 0, D.int .i64 0, D.bool false, D.int .i64 0, D.str ([] : Str), D.str ([] : Str), D.int .i64 0, D.bool false, D.int .i64 0, D.int .i64 0, D.str ([] : Str), D.int .i64 0, D.sl api_Prop.ks (List.map api_Prop.enc []), D.bool false, D.int .i64 0, D.sl api_Sub.ks (List.map api_Sub.enc []), D.sl [.str] (List.map encS []), D.sl [.int .i64] (List.map (encI .i64) [])] [D.int .i64 p0.Kind, D.int .i64 p0.ID, D.bool false, D.str ([] : Str), D.str ([] : Str), D.int .i64 0, D.bool false, D.int .i64 0, D.int .i64 0, D.str ([] : Str), D.int .i64 0, D.sl api_Prop.ks (List.map api_Prop.enc []), D.str ([] : Str), D.str ([] : Str), D.bool false, D.int .i64 0, D.int .i64 0, D.int .i64 0, D.bool false, D.int .i64 0, D.str ([] : Str), D.str ([] : Str), D.int .i64 0, D.bool false, D.int .i64 0, D.int .i64 0, D.str ([] : Str), D.int .i64 0, D.sl api_Prop.ks (List.map api_Prop.enc []), D.bool false, D.int .i64 0, D.sl api_Sub.ks (List.map api_Sub.enc []), D.sl [.str] (List.map encS []), D.sl [.int .i64] (List.map (encI .i64) [])]) (
  cond (decide (p0.Kind ≥ 4)) (
   cond (decide (p0.Kind ≤ 11)) (
    R28_4 (C28 Γ) Λ2 J (api_Packet.enc p0) [D.int .i64 0, D.int .i64 0, D.bool false, D.str ([] : Str), D.str ([] : Str), D.int .i64 0, D.bool false, D.int .i64 0, D.int .i64 0, D.str ([] : Str), D.int .i64 0, D.sl api_Prop.ks (List.map api_Prop.enc []), D.str ([] : Str), D.str ([] : Str), D.bool false, D.int .i64 0, D.int .i64 0, D.int .i64 0, D.bool false, D.int .i64 0, D.str ([] : Str), D.str ([] : Str), D.int .i64 0, D.bool false, D.int .i64 0, D.int .i64 0, D.str ([] : Str), D.int .i64 0, D.sl api_Prop.ks (List.map api_Prop.enc []), D.bool false, D.int .i64 0, D.sl api_Sub.ks (List.map api_Sub.enc []), D.sl [.str] (List.map encS []), D.sl [.int .i64] (List.map (encI .i64) [])] [D.int .i64 p0.Kind, D.int .i64 p0.ID, D.bool false, D.str ([] : Str), D.str ([] : Str), D.int .i64 0, D.bool false, D.int .i64 0, D.int .i64 0, D.str ([] : Str), D.int .i64 0, D.sl api_Prop.ks (List.map api_Prop.enc []), D.str ([] : Str), D.str ([] : Str), D.bool false, D.int .i64 0, D.int .i64 0, D.int .i64 0, D.bool false, D.int .i64 0, D.str ([] : Str), D.str ([] : Str), D.int .i64 0, D.bool false, D.int .i64 0, D.int .i64 0, D.str ([] : Str), D.int .i64 0, D.sl api_Prop.ks (List.map api_Prop.enc []), D.bool false, D.int .i64 0, D.sl api_Sub.ks (List.map api_Sub.enc []), D.sl [.str] (List.map encS []), D.sl [.int .i64] (List.map (encI .i64) [])]) (
   R28_4 (C28 Γ) Λ2 J (api_Packet.enc p0) [D.int .i64 0, D.int .i64 0, D.bool false, D.str ([] : Str), D.str ([] : Str), D.int .i64 0, D.bool false, D.int .i64 0, D.int .i64 0, D.str ([] : Str), D.int .i64 0, D.sl api_Prop.ks (List.map api_Prop.enc []), D.str ([] : Str), D.str ([] : Str), D.bool false, D.int .i64 0, D.int .i64 0, D.int .i64 0, D.bool false, D.int .i64 0, D.str ([] : Str), D.str ([] : Str), D.int .i64 0, D.bool false, D.int .i64 0, D.int .i64 0, D.str ([] : Str), D.int .i64 0, D.sl api_Prop.ks (List.map api_Prop.enc []), D.bool false, D.int .i64 0, D.sl api_Sub.ks (List.map api_Sub.enc []), D.sl [.str] (List.map encS []), D.sl [.int .i64] (List.map (encI .i64) [])] [D.int .i64 p0.Kind, D.int .i64 0, D.bool false, D.str ([] : Str), D.str ([] : Str), D.int .i64 0, D.bool false, D.int .i64 0, D.int .i64 0, D.str ([] : Str), D.int .i64 0, D.sl api_Prop.ks (List.map api_Prop.enc []), D.str ([] : Str), D.str ([] : Str), D.bool false, D.int .i64 0, D.int .i64 0, D.int .i64 0, D.bool false, D.int .i64 0, D.str ([] : Str), D.str ([] : Str), D.int .i64 0, D.bool false, D.int .i64 0, D.int .i64 0, D.str ([] : Str), D.int .i64 0, D.sl api_Prop.ks (List.map api_Prop.enc []), D.bool false, D.int .i64 0, D.sl api_Sub.ks (List.map api_Sub.enc []), D.sl [.str] (List.map encS []), D.sl [.int .i64] (List.map (encI .i64) [])])) (
  R28_4 (C28 Γ) Λ2 J (api_Packet.enc p0) [D.int .i64 0, D.int .i64 0, D.bool false, D.str ([] : Str), D.str ([] : Str), D.int .i64 0, D.bool false, D.int .i64 0, D.int .i64 0, D.str ([] : Str), D.int .i64 0, D.sl api_Prop.ks (List.map api_Prop.enc []), D.str ([] : Str), D.str ([] : Str), D.bool false, D.int .i64 0, D.int .i64 0, D.int .i64 0, D.bool false, D.int .i64 0, D.str ([] : Str), D.str ([] : Str), D.int .i64 0, D.bool false, D.int .i64 0, D.int .i64 0, D.str ([] : Str), D.int .i64 0, D.sl api_Prop.ks (List.map api_Prop.enc []), D.bool false, D.int .i64 0, D.sl api_Sub.ks (List.map api_Sub.enc []), D.sl [.str] (List.map encS []), D.sl [.int .i64] (List.map (encI .i64) [])] [D.int .i64 p0.Kind, D.int .i64 0, D.bool false, D.str ([] : Str), D.str ([] : Str), D.int .i64 0, D.bool false, D.int .i64 0, D.int .i64 0, D.str ([] : Str), D.int .i64 0, D.sl api_Prop.ks (List.map api_Prop.enc []), D.str ([] : Str), D.str ([] : Str), D.bool false, D.int .i64 0, D.int .i64 0, D.int .i64 0, D.bool false, D.int .i64 0, D.str ([] : Str), D.str ([] : Str), D.int .i64 0, D.bool false, D.int .i64 0, D.int .i64 0, D.str ([] : Str), D.int .i64 0, D.sl api_Prop.ks (List.map api_Prop.enc []), D.bool false, D.int .i64 0, D.sl api_Sub.ks (List.map api_Sub.enc []), D.sl [.str] (List.map encS []), D.sl [.int .i64] (List.map (encI .i64) [])])) := by kernel_rfl
theorem T28_23 (Γ : Fun)  (Λ2 J : Lam) (b0 : api_Packet) (b1 : api_Packet) (b2 : api_Packet) : labU SE (C28 Γ) Λ2 J 28 0 [1, 1, 1, 1, 1, 1, 1, 1, 1, 0, 0] (stoOf [(1, .ptr 1000000000 0), (2, .ptr 1000000001 0), (3, .ptr 1000000002 0)] [⟨39, (List.map AV.d (api_Packet.enc b0))⟩, ⟨39, (List.map AV.d (api_Packet.enc b1))⟩, ⟨39, (List.map AV.d (api_Packet.enc b2))⟩] [] [] []) =
  cond (b0.Kind == 9) (
   (some (.ret [api_Packet.av (api_Packet.mk b2.Kind b2.ID b2.Dup b2.Message b2.Client b2.User b2.Clean b2.Keep b2.Expiry b2.Window b2.Will b2.Present b2.Code b2.Subs b2.Filters b0.Codes)] [] []))) (
  cond (b0.Kind == 11) (
   (some (.ret [api_Packet.av (api_Packet.mk b2.Kind b2.ID b2.Dup b2.Message b2.Client b2.User b2.Clean b2.Keep b2.Expiry b2.Window b2.Will b2.Present b2.Code b2.Subs b2.Filters b0.Codes)] [] []))) (
  (some (.ret [api_Packet.av b2] [] [])))) := by kernel_rfl
theorem T28_21 (Γ : Fun)  (Λ2 J : Lam) (b0 : api_Packet) (b1 : api_Packet) (b2 : api_Packet) : labU SE (C28 Γ) Λ2 J 28 0 [1, 1, 1, 1, 1, 1, 1, 1, 0, 0] (stoOf [(1, .ptr 1000000000 0), (2, .ptr 1000000001 0), (3, .ptr 1000000002 0)] [⟨39, (List.map AV.d (api_Packet.enc b0))⟩, ⟨39, (List.map AV.d (api_Packet.enc b1))⟩, ⟨39, (List.map AV.d (api_Packet.enc b2))⟩] [] [] []) =
  cond (b0.Kind == 10) (
   R28_23 (C28 Γ) Λ2 J (api_Packet.enc b0) (api_Packet.enc b1) (api_Packet.enc (api_Packet.mk b2.Kind b2.ID b2.Dup b2.Message b2.Client b2.User b2.Clean b2.Keep b2.Expiry b2.Window b2.Will b2.Present b2.Code b2.Subs b0.Filters b2.Codes))) (
  R28_23 (C28 Γ) Λ2 J (api_Packet.enc b0) (api_Packet.enc b1) (api_Packet.enc b2)) := by kernel_rfl
theorem T28_19 (Γ : Fun)  (Λ2 J : Lam) (b0 : api_Packet) (b1 : api_Packet) (b2 : api_Packet) : labU SE (C28 Γ) Λ2 J 28 0 [1, 1, 1, 1, 1, 1, 1, 0, 0] (stoOf [(1, .ptr 1000000000 0), (2, .ptr 1000000001 0), (3, .ptr 1000000002 0)] [⟨39, (List.map AV.d (api_Packet.enc b0))⟩, ⟨39, (List.map AV.d (api_Packet.enc b1))⟩, ⟨39, (List.map AV.d (api_Packet.enc b2))⟩] [] [] []) =
  cond (b0.Kind == 8) (
   R28_21 (C28 Γ) Λ2 J (api_Packet.enc b0) (api_Packet.enc b1) (api_Packet.enc (api_Packet.mk b2.Kind b2.ID b2.Dup b2.Message b2.Client b2.User b2.Clean b2.Keep b2.Expiry b2.Window b2.Will b2.Present b2.Code b0.Subs b2.Filters b2.Codes))) (
  R28_21 (C28 Γ) Λ2 J (api_Packet.enc b0) (api_Packet.enc b1) (api_Packet.enc b2)) := by kernel_rfl
theorem T28_16 (Γ : Fun)  (Λ2 J : Lam) (b0 : api_Packet) (b1 : api_Packet) (b2 : api_Packet) : labU SE (C28 Γ) Λ2 J 28 0 [1, 1, 1, 1, 1, 1, 0, 0] (stoOf [(1, .ptr 1000000000 0), (2, .ptr 1000000001 0), (3, .ptr 1000000002 0)] [⟨39, (List.map AV.d (api_Packet.enc b0))⟩, ⟨39, (List.map AV.d (api_Packet.enc b1))⟩, ⟨39, (List.map AV.d (api_Packet.enc b2))⟩] [] [] []) =
  cond (b0.Kind == 3) (
   R28_19 (C28 Γ) Λ2 J (api_Packet.enc b0) (api_Packet.enc b1) (api_Packet.enc (api_Packet.mk b2.Kind b2.ID b0.Dup b0.Message b2.Client b2.User b2.Clean b2.Keep b2.Expiry b2.Window b2.Will b2.Present b2.Code b2.Subs b2.Filters b2.Codes))) (
  R28_19 (C28 Γ) Λ2 J (api_Packet.enc b0) (api_Packet.enc b1) (api_Packet.enc b2)) := by kernel_rfl
theorem T28_14 (Γ : Fun)  (Λ2 J : Lam) (b0 : api_Packet) (b1 : api_Packet) (b2 : api_Packet) : labU SE (C28 Γ) Λ2 J 28 0 [1, 1, 1, 1, 1, 0, 0] (stoOf [(1, .ptr 1000000000 0), (2, .ptr 1000000001 0), (3, .ptr 1000000002 0)] [⟨39, (List.map AV.d (api_Packet.enc b0))⟩, ⟨39, (List.map AV.d (api_Packet.enc b1))⟩, ⟨39, (List.map AV.d (api_Packet.enc b2))⟩] [] [] []) =
  cond (b0.Kind == 2) (
   R28_16 (C28 Γ) Λ2 J (api_Packet.enc b0) (api_Packet.enc b1) (api_Packet.enc (api_Packet.mk b2.Kind b2.ID b2.Dup b2.Message b2.Client b2.User b2.Clean b2.Keep b2.Expiry b2.Window b2.Will b2.Present b0.Code b2.Subs b2.Filters b2.Codes))) (
  cond (b0.Kind == 14) (
   R28_16 (C28 Γ) Λ2 J (api_Packet.enc b0) (api_Packet.enc b1) (api_Packet.enc (api_Packet.mk b2.Kind b2.ID b2.Dup b2.Message b2.Client b2.User b2.Clean b2.Keep b2.Expiry b2.Window b2.Will b2.Present b0.Code b2.Subs b2.Filters b2.Codes))) (
  R28_16 (C28 Γ) Λ2 J (api_Packet.enc b0) (api_Packet.enc b1) (api_Packet.enc b2))) := by kernel_rfl
theorem T28_12 (Γ : Fun)  (Λ2 J : Lam) (b0 : api_Packet) (b1 : api_Packet) (b2 : api_Packet) : labU SE (C28 Γ) Λ2 J 28 0 [1, 1, 1, 1, 0, 0] (stoOf [(1, .ptr 1000000000 0), (2, .ptr 1000000001 0), (3, .ptr 1000000002 0)] [⟨39, (List.map AV.d (api_Packet.enc b0))⟩, ⟨39, (List.map AV.d (api_Packet.enc b1))⟩, ⟨39, (List.map AV.d (api_Packet.enc b2))⟩] [] [] []) =
  cond (b0.Kind == 2) (
   R28_14 (C28 Γ) Λ2 J (api_Packet.enc b0) (api_Packet.enc b1) (api_Packet.enc (api_Packet.mk b2.Kind b2.ID b2.Dup b2.Message b2.Client b2.User b2.Clean b2.Keep b2.Expiry b2.Window b2.Will b0.Present b2.Code b2.Subs b2.Filters b2.Codes))) (
  R28_14 (C28 Γ) Λ2 J (api_Packet.enc b0) (api_Packet.enc b1) (api_Packet.enc b2)) := by kernel_rfl
theorem T28_4 (Γ : Fun)  (Λ2 J : Lam) (b0 : api_Packet) (b1 : api_Packet) (b2 : api_Packet) : labU SE (C28 Γ) Λ2 J 28 0 [1, 1, 1, 0, 0] (stoOf [(1, .ptr 1000000000 0), (2, .ptr 1000000001 0), (3, .ptr 1000000002 0)] [⟨39, (List.map AV.d (api_Packet.enc b0))⟩, ⟨39, (List.map AV.d (api_Packet.enc b1))⟩, ⟨39, (List.map AV.d (api_Packet.enc b2))⟩] [] [] []) =
  cond (b0.Kind == 1) (
   R28_12 (C28 Γ) Λ2 J (api_Packet.enc b0) (api_Packet.enc b1) (api_Packet.enc (api_Packet.mk b2.Kind b2.ID b2.Dup b2.Message b0.Client b0.User b0.Clean b0.Keep b0.Expiry b0.Window b0.Will b2.Present b2.Code b2.Subs b2.Filters b2.Codes))) (
  R28_12 (C28 Γ) Λ2 J (api_Packet.enc b0) (api_Packet.enc b1) (api_Packet.enc b2)) := by kernel_rfl
abbrev X28 : CFun := C28 (callG SE good)
theorem Cr28 : C28 (callG SE good) = bindC (callG SE good) := by unfold C28; rfl
noncomputable abbrev Q28_23 (a0 : (List D)) (a1 : (List D)) (a2 : (List D)) : Res := R28_23 X28 (lam2 SE (callG SE good) (SE.hl 28) (SE.hr 28)) (J0 SE X28) a0 a1 a2
noncomputable abbrev Q28_21 (a0 : (List D)) (a1 : (List D)) (a2 : (List D)) : Res := R28_21 X28 (lam2 SE (callG SE good) (SE.hl 28) (SE.hr 28)) (J0 SE X28) a0 a1 a2
noncomputable abbrev Q28_19 (a0 : (List D)) (a1 : (List D)) (a2 : (List D)) : Res := R28_19 X28 (lam2 SE (callG SE good) (SE.hl 28) (SE.hr 28)) (J0 SE X28) a0 a1 a2
noncomputable abbrev Q28_16 (a0 : (List D)) (a1 : (List D)) (a2 : (List D)) : Res := R28_16 X28 (lam2 SE (callG SE good) (SE.hl 28) (SE.hr 28)) (J0 SE X28) a0 a1 a2
noncomputable abbrev Q28_14 (a0 : (List D)) (a1 : (List D)) (a2 : (List D)) : Res := R28_14 X28 (lam2 SE (callG SE good) (SE.hl 28) (SE.hr 28)) (J0 SE X28) a0 a1 a2
noncomputable abbrev Q28_12 (a0 : (List D)) (a1 : (List D)) (a2 : (List D)) : Res := R28_12 X28 (lam2 SE (callG SE good) (SE.hl 28) (SE.hr 28)) (J0 SE X28) a0 a1 a2
noncomputable abbrev Q28_4 (a0 : (List D)) (a1 : (List D)) (a2 : (List D)) : Res := R28_4 X28 (lam2 SE (callG SE good) (SE.hl 28) (SE.hr 28)) (J0 SE X28) a0 a1 a2
theorem brokerref06_Used_j23_ok (b0 : api_Packet) (b1 : api_Packet) (b2 : api_Packet) : Le (Option.map brokerref06_Used_out (brokerref06_Used_j23 b0 b1 b2)) (Q28_23 (api_Packet.enc b0) (api_Packet.enc b1) (api_Packet.enc b2)) := by
  refine Le.trans ?_ (le_of_eq ((lab_realC Cr28).trans (T28_23 _ _ _  b0 b1 b2)).symm)
  unfold brokerref06_Used_j23
  refine le_cond rfl (fun _ => ?_) (fun _ => ?_)
  · skip
    exact le_ret (by first | rfl | (simp only [EN, brokerref06_Used_out]; done) | (simp only [EN, brokerref06_Used_out]; rfl))
  · skip
    refine le_cond rfl (fun _ => ?_) (fun _ => ?_)
    · skip
      exact le_ret (by first | rfl | (simp only [EN, brokerref06_Used_out]; done) | (simp only [EN, brokerref06_Used_out]; rfl))
    · skip
      exact le_ret (by first | rfl | (simp only [EN, brokerref06_Used_out]; done) | (simp only [EN, brokerref06_Used_out]; rfl))
theorem brokerref06_Used_j21_ok (b0 : api_Packet) (b1 : api_Packet) (b2 : api_Packet) : Le (Option.map brokerref06_Used_out (brokerref06_Used_j21 b0 b1 b2)) (Q28_21 (api_Packet.enc b0) (api_Packet.enc b1) (api_Packet.enc b2)) := by
  refine Le.trans ?_ (le_of_eq ((lab_realC Cr28).trans (T28_21 _ _ _  b0 b1 b2)).symm)
  unfold brokerref06_Used_j21
  refine le_cond rfl (fun _ => ?_) (fun _ => ?_)
  · skip
    exact brokerref06_Used_j23_ok b0 b1 (api_Packet.mk b2.Kind b2.ID b2.Dup b2.Message b2.Client b2.User b2.Clean b2.Keep b2.Expiry b2.Window b2.Will b2.Present b2.Code b2.Subs b0.Filters b2.Codes)
  · skip
    exact brokerref06_Used_j23_ok b0 b1 b2
theorem brokerref06_Used_j19_ok (b0 : api_Packet) (b1 : api_Packet) (b2 : api_Packet) : Le (Option.map brokerref06_Used_out (brokerref06_Used_j19 b0 b1 b2)) (Q28_19 (api_Packet.enc b0) (api_Packet.enc b1) (api_Packet.enc b2)) := by
  refine Le.trans ?_ (le_of_eq ((lab_realC Cr28).trans (T28_19 _ _ _  b0 b1 b2)).symm)
  unfold brokerref06_Used_j19
  refine le_cond rfl (fun _ => ?_) (fun _ => ?_)
  · skip
    exact brokerref06_Used_j21_ok b0 b1 (api_Packet.mk b2.Kind b2.ID b2.Dup b2.Message b2.Client b2.User b2.Clean b2.Keep b2.Expiry b2.Window b2.Will b2.Present b2.Code b0.Subs b2.Filters b2.Codes)
  · skip
    exact brokerref06_Used_j21_ok b0 b1 b2
theorem brokerref06_Used_j16_ok (b0 : api_Packet) (b1 : api_Packet) (b2 : api_Packet) : Le (Option.map brokerref06_Used_out (brokerref06_Used_j16 b0 b1 b2)) (Q28_16 (api_Packet.enc b0) (api_Packet.enc b1) (api_Packet.enc b2)) := by
  refine Le.trans ?_ (le_of_eq ((lab_realC Cr28).trans (T28_16 _ _ _  b0 b1 b2)).symm)
  unfold brokerref06_Used_j16
  refine le_cond rfl (fun _ => ?_) (fun _ => ?_)
  · skip
    exact brokerref06_Used_j19_ok b0 b1 (api_Packet.mk b2.Kind b2.ID b0.Dup b0.Message b2.Client b2.User b2.Clean b2.Keep b2.Expiry b2.Window b2.Will b2.Present b2.Code b2.Subs b2.Filters b2.Codes)
  · skip
    exact brokerref06_Used_j19_ok b0 b1 b2
theorem brokerref06_Used_j14_ok (b0 : api_Packet) (b1 : api_Packet) (b2 : api_Packet) : Le (Option.map brokerref06_Used_out (brokerref06_Used_j14 b0 b1 b2)) (Q28_14 (api_Packet.enc b0) (api_Packet.enc b1) (api_Packet.enc b2)) := by
  refine Le.trans ?_ (le_of_eq ((lab_realC Cr28).trans (T28_14 _ _ _  b0 b1 b2)).symm)
  unfold brokerref06_Used_j14
  refine le_cond rfl (fun _ => ?_) (fun _ => ?_)
  · skip
    exact brokerref06_Used_j16_ok b0 b1 (api_Packet.mk b2.Kind b2.ID b2.Dup b2.Message b2.Client b2.User b2.Clean b2.Keep b2.Expiry b2.Window b2.Will b2.Present b0.Code b2.Subs b2.Filters b2.Codes)
  · skip
    refine le_cond rfl (fun _ => ?_) (fun _ => ?_)
    · skip
      exact brokerref06_Used_j16_ok b0 b1 (api_Packet.mk b2.Kind b2.ID b2.Dup b2.Message b2.Client b2.User b2.Clean b2.Keep b2.Expiry b2.Window b2.Will b2.Present b0.Code b2.Subs b2.Filters b2.Codes)
    · skip
      exact brokerref06_Used_j16_ok b0 b1 b2
theorem brokerref06_Used_j12_ok (b0 : api_Packet) (b1 : api_Packet) (b2 : api_Packet) : Le (Option.map brokerref06_Used_out (brokerref06_Used_j12 b0 b1 b2)) (Q28_12 (api_Packet.enc b0) (api_Packet.enc b1) (api_Packet.enc b2)) := by
  refine Le.trans ?_ (le_of_eq ((lab_realC Cr28).trans (T28_12 _ _ _  b0 b1 b2)).symm)
  unfold brokerref06_Used_j12
  refine le_cond rfl (fun _ => ?_) (fun _ => ?_)
  · skip
    exact brokerref06_Used_j14_ok b0 b1 (api_Packet.mk b2.Kind b2.ID b2.Dup b2.Message b2.Client b2.User b2.Clean b2.Keep b2.Expiry b2.Window b2.Will b0.Present b2.Code b2.Subs b2.Filters b2.Codes)
  · skip
    exact brokerref06_Used_j14_ok b0 b1 b2
theorem brokerref06_Used_j4_ok (b0 : api_Packet) (b1 : api_Packet) (b2 : api_Packet) : Le (Option.map brokerref06_Used_out (brokerref06_Used_j4 b0 b1 b2)) (Q28_4 (api_Packet.enc b0) (api_Packet.enc b1) (api_Packet.enc b2)) := by
  refine Le.trans ?_ (le_of_eq ((lab_realC Cr28).trans (T28_4 _ _ _  b0 b1 b2)).symm)
  unfold brokerref06_Used_j4
  refine le_cond rfl (fun _ => ?_) (fun _ => ?_)
  · skip
    exact brokerref06_Used_j12_ok b0 b1 (api_Packet.mk b2.Kind b2.ID b2.Dup b2.Message b0.Client b0.User b0.Clean b0.Keep b0.Expiry b0.Window b0.Will b2.Present b2.Code b2.Subs b2.Filters b2.Codes)
  · skip
    exact brokerref06_Used_j12_ok b0 b1 b2
theorem brokerref06_Used_ok (p0 : api_Packet) : Le (Option.map brokerref06_Used_out (brokerref06_Used p0)) (callW SE 28 [api_Packet.av p0] [] []) := by
  refine le_bodyC Cr28 ?_
  refine Le.trans ?_ (le_of_eq (T28 _ _ _  p0).symm)
  unfold brokerref06_Used
  refine le_cond rfl (fun _ => ?_) (fun _ => ?_)
  · skip
    first | (simp only [EN]; exact brokerref06_Used_j4_ok p0 ((api_Packet.mk 0 0 false (api_Message.mk ([] : Str) ([] : Str) 0 false 0 0 ([] : Str) 0 ([] : List api_Prop)) ([] : Str) ([] : Str) false 0 0 0 (api_Will.mk false 0 (api_Message.mk ([] : Str) ([] : Str) 0 false 0 0 ([] : Str) 0 ([] : List api_Prop))) false 0 ([] : List api_Sub) ([] : List Str) ([] : List Int))) ((api_Packet.mk p0.Kind p0.ID false (api_Message.mk ([] : Str) ([] : Str) 0 false 0 0 ([] : Str) 0 ([] : List api_Prop)) ([] : Str) ([] : Str) false 0 0 0 (api_Will.mk false 0 (api_Message.mk ([] : Str) ([] : Str) 0 false 0 0 ([] : Str) 0 ([] : List api_Prop))) false 0 ([] : List api_Sub) ([] : List Str) ([] : List Int)))) | exact brokerref06_Used_j4_ok p0 ((api_Packet.mk 0 0 false (api_Message.mk ([] : Str) ([] : Str) 0 false 0 0 ([] : Str) 0 ([] : List api_Prop)) ([] : Str) ([] : Str) false 0 0 0 (api_Will.mk false 0 (api_Message.mk ([] : Str) ([] : Str) 0 false 0 0 ([] : Str) 0 ([] : List api_Prop))) false 0 ([] : List api_Sub) ([] : List Str) ([] : List Int))) ((api_Packet.mk p0.Kind p0.ID false (api_Message.mk ([] : Str) ([] : Str) 0 false 0 0 ([] : Str) 0 ([] : List api_Prop)) ([] : Str) ([] : Str) false 0 0 0 (api_Will.mk false 0 (api_Message.mk ([] : Str) ([] : Str) 0 false 0 0 ([] : Str) 0 ([] : List api_Prop))) false 0 ([] : List api_Sub) ([] : List Str) ([] : List Int)))
  · skip
    refine le_cond rfl (fun _ => ?_) (fun _ => ?_)
    · skip
      refine le_cond rfl (fun _ => ?_) (fun _ => ?_)
      · skip
        first | (simp only [EN]; exact brokerref06_Used_j4_ok p0 ((api_Packet.mk 0 0 false (api_Message.mk ([] : Str) ([] : Str) 0 false 0 0 ([] : Str) 0 ([] : List api_Prop)) ([] : Str) ([] : Str) false 0 0 0 (api_Will.mk false 0 (api_Message.mk ([] : Str) ([] : Str) 0 false 0 0 ([] : Str) 0 ([] : List api_Prop))) false 0 ([] : List api_Sub) ([] : List Str) ([] : List Int))) ((api_Packet.mk p0.Kind p0.ID false (api_Message.mk ([] : Str) ([] : Str) 0 false 0 0 ([] : Str) 0 ([] : List api_Prop)) ([] : Str) ([] : Str) false 0 0 0 (api_Will.mk false 0 (api_Message.mk ([] : Str) ([] : Str) 0 false 0 0 ([] : Str) 0 ([] : List api_Prop))) false 0 ([] : List api_Sub) ([] : List Str) ([] : List Int)))) | exact brokerref06_Used_j4_ok p0 ((api_Packet.mk 0 0 false (api_Message.mk ([] : Str) ([] : Str) 0 false 0 0 ([] : Str) 0 ([] : List api_Prop)) ([] : Str) ([] : Str) false 0 0 0 (api_Will.mk false 0 (api_Message.mk ([] : Str) ([] : Str) 0 false 0 0 ([] : Str) 0 ([] : List api_Prop))) false 0 ([] : List api_Sub) ([] : List Str) ([] : List Int))) ((api_Packet.mk p0.Kind p0.ID false (api_Message.mk ([] : Str) ([] : Str) 0 false 0 0 ([] : Str) 0 ([] : List api_Prop)) ([] : Str) ([] : Str) false 0 0 0 (api_Will.mk false 0 (api_Message.mk ([] : Str) ([] : Str) 0 false 0 0 ([] : Str) 0 ([] : List api_Prop))) false 0 ([] : List api_Sub) ([] : List Str) ([] : List Int)))
      · skip
        first | (simp only [EN]; exact brokerref06_Used_j4_ok p0 ((api_Packet.mk 0 0 false (api_Message.mk ([] : Str) ([] : Str) 0 false 0 0 ([] : Str) 0 ([] : List api_Prop)) ([] : Str) ([] : Str) false 0 0 0 (api_Will.mk false 0 (api_Message.mk ([] : Str) ([] : Str) 0 false 0 0 ([] : Str) 0 ([] : List api_Prop))) false 0 ([] : List api_Sub) ([] : List Str) ([] : List Int))) ((api_Packet.mk p0.Kind 0 false (api_Message.mk ([] : Str) ([] : Str) 0 false 0 0 ([] : Str) 0 ([] : List api_Prop)) ([] : Str) ([] : Str) false 0 0 0 (api_Will.mk false 0 (api_Message.mk ([] : Str) ([] : Str) 0 false 0 0 ([] : Str) 0 ([] : List api_Prop))) false 0 ([] : List api_Sub) ([] : List Str) ([] : List Int)))) | exact brokerref06_Used_j4_ok p0 ((api_Packet.mk 0 0 false (api_Message.mk ([] : Str) ([] : Str) 0 false 0 0 ([] : Str) 0 ([] : List api_Prop)) ([] : Str) ([] : Str) false 0 0 0 (api_Will.mk false 0 (api_Message.mk ([] : Str) ([] : Str) 0 false 0 0 ([] : Str) 0 ([] : List api_Prop))) false 0 ([] : List api_Sub) ([] : List Str) ([] : List Int))) ((api_Packet.mk p0.Kind 0 false (api_Message.mk ([] : Str) ([] : Str) 0 false 0 0 ([] : Str) 0 ([] : List api_Prop)) ([] : Str) ([] : Str) false 0 0 0 (api_Will.mk false 0 (api_Message.mk ([] : Str) ([] : Str) 0 false 0 0 ([] : Str) 0 ([] : List api_Prop))) false 0 ([] : List api_Sub) ([] : List Str) ([] : List Int)))
    · skip
      first | (simp only [EN]; exact brokerref06_Used_j4_ok p0 ((api_Packet.mk 0 0 false (api_Message.mk ([] : Str) ([] : Str) 0 false 0 0 ([] : Str) 0 ([] : List api_Prop)) ([] : Str) ([] : Str) false 0 0 0 (api_Will.mk false 0 (api_Message.mk ([] : Str) ([] : Str) 0 false 0 0 ([] : Str) 0 ([] : List api_Prop))) false 0 ([] : List api_Sub) ([] : List Str) ([] : List Int))) ((api_Packet.mk p0.Kind 0 false (api_Message.mk ([] : Str) ([] : Str) 0 false 0 0 ([] : Str) 0 ([] : List api_Prop)) ([] : Str) ([] : Str) false 0 0 0 (api_Will.mk false 0 (api_Message.mk ([] : Str) ([] : Str) 0 false 0 0 ([] : Str) 0 ([] : List api_Prop))) false 0 ([] : List api_Sub) ([] : List Str) ([] : List Int)))) | exact brokerref06_Used_j4_ok p0 ((api_Packet.mk 0 0 false (api_Message.mk ([] : Str) ([] : Str) 0 false 0 0 ([] : Str) 0 ([] : List api_Prop)) ([] : Str) ([] : Str) false 0 0 0 (api_Will.mk false 0 (api_Message.mk ([] : Str) ([] : Str) 0 false 0 0 ([] : Str) 0 ([] : List api_Prop))) false 0 ([] : List api_Sub) ([] : List Str) ([] : List Int))) ((api_Packet.mk p0.Kind 0 false (api_Message.mk ([] : Str) ([] : Str) 0 false 0 0 ([] : Str) 0 ([] : List api_Prop)) ([] : Str) ([] : Str) false 0 0 0 (api_Will.mk false 0 (api_Message.mk ([] : Str) ([] : Str) 0 false 0 0 ([] : Str) 0 ([] : List api_Prop))) false 0 ([] : List api_Sub) ([] : List Str) ([] : List Int)))
def C67 (Γ : Fun)  : CFun := bindC Γ
def R67_4 (C : CFun) (Λ2 J : Lam) (a0 : (List (List D))) (a1 : (List (List D))) (a2 : Int) : Res := lab SE C Λ2 J 67 0 [1, 1, 0, 1, 0] (stoOf [(0, .d (.sl api_Prop.ks a0)), (1, .d (.sl api_Prop.ks a1)), (5, .d (.int .i64 a2))] [] [] [] [])
theorem T67 (Γ : Fun)  (Λ2 J : Lam) (p0 : (List api_Prop)) (p1 : (List api_Prop)) : bodyC SE (C67 Γ) Λ2 J 67 [.d (.sl api_Prop.ks (List.map api_Prop.enc p0)), .d (.sl api_Prop.ks (List.map api_Prop.enc p1))] [] [] =
  cond ((List.length (List.map api_Prop.enc p0) : Int) != (List.length (List.map api_Prop.enc p1) : Int)) (
   (some (.ret [.d (.bool false)] [] []))) (
  R67_4 (C67 Γ) Λ2 J (List.map api_Prop.enc p0) (List.map api_Prop.enc p1) 0) := by kernel_rfl
theorem T67_4 (Γ : Fun)  (Λ2 J : Lam) (x0 : (List api_Prop)) (x1 : (List api_Prop)) (x5 : Int) : labU SE (C67 Γ) Λ2 J 67 0 [1, 1, 0, 1, 0] (stoOf [(0, .d (.sl api_Prop.ks (List.map api_Prop.enc x0))), (1, .d (.sl api_Prop.ks (List.map api_Prop.enc x1))), (5, .d (.int .i64 x5))] [] [] [] []) =
  cond (decide (x5 < (List.length (List.map api_Prop.enc x0) : Int))) (
   cond (decide (0 ≤ x5) && decide (x5 < (List.length (List.map api_Prop.enc x0) : Int))) (
    cond (decide (0 ≤ x5) && decide (x5 < (List.length (List.map api_Prop.enc x1) : Int))) (
     cond (!(((dStr (cellAt (elemAt (List.map api_Prop.enc x0) (Int.toNat x5)) 0)) == (dStr (cellAt (elemAt (List.map api_Prop.enc x1) (Int.toNat x5)) 0))) && (((dStr (cellAt (elemAt (List.map api_Prop.enc x0) (Int.toNat x5)) 1)) == (dStr (cellAt (elemAt (List.map api_Prop.enc x1) (Int.toNat x5)) 1))) && true))) (
      (some (.ret [.d (.bool false)] [] []))) (
     R67_4 (C67 Γ) Λ2 J (List.map api_Prop.enc x0) (List.map api_Prop.enc x1) (IntKind.wrap .i64 (x5 + 1)))) none) none) (
  (some (.ret [.d (.bool true)] [] []))) := by kernel_rfl
abbrev X67 : CFun := C67 (callG SE good)
theorem Cr67 : C67 (callG SE good) = bindC (callG SE good) := by unfold C67; rfl
noncomputable abbrev Q67_4 (a0 : (List (List D))) (a1 : (List (List D))) (a2 : Int) : Res := R67_4 X67 (lam2 SE (callG SE good) (SE.hl 67) (SE.hr 67)) (J0 SE X67) a0 a1 a2
theorem brokerref05_SameProps_l4_ok : ∀ (fu : Nat) (x0 : (List api_Prop)) (x1 : (List api_Prop)) (x5 : Int), Le (Option.map brokerref05_SameProps_out (brokerref05_SameProps_l4 fu x0 x1 x5)) (Q67_4 (List.map api_Prop.enc x0) (List.map api_Prop.enc x1) x5) := by
  intro fu
  induction fu with
  | zero => intros; exact le_none
  | succ fu ih =>
    intro x0 x1 x5
    refine Le.trans ?_ (le_of_eq ((lab_realC Cr67).trans (T67_4 _ _ _  x0 x1 x5)).symm)
    unfold brokerref05_SameProps_l4
    refine le_cond (by simp only [EN]) (fun _ => ?_) (fun _ => ?_)
    · skip
      refine le_cond (by simp only [EN]) (fun _ => ?_) (fun _ => le_none)
      refine le_cond (by simp only [EN]) (fun _ => ?_) (fun _ => le_none)
      refine le_cond (by simp only [EN]) (fun _ => ?_) (fun _ => ?_)
      · skip
        exact le_ret (by first | rfl | (simp only [EN, brokerref05_SameProps_out]; done) | (simp only [EN, brokerref05_SameProps_out]; rfl))
      · skip
        exact ih x0 x1 (IntKind.wrap .i64 (x5 + 1))
    · skip
      exact le_ret (by first | rfl | (simp only [EN, brokerref05_SameProps_out]; done) | (simp only [EN, brokerref05_SameProps_out]; rfl))
theorem brokerref05_SameProps_ok (p0 : (List api_Prop)) (p1 : (List api_Prop)) : Le (Option.map brokerref05_SameProps_out (brokerref05_SameProps p0 p1)) (callW SE 67 [.d (.sl api_Prop.ks (List.map api_Prop.enc p0)), .d (.sl api_Prop.ks (List.map api_Prop.enc p1))] [] []) := by
  refine le_bodyC Cr67 ?_
  refine Le.trans ?_ (le_of_eq (T67 _ _ _  p0 p1).symm)
  unfold brokerref05_SameProps
  refine le_cond (by simp only [EN]) (fun _ => ?_) (fun _ => ?_)
  · skip
    exact le_ret (by first | rfl | (simp only [EN, brokerref05_SameProps_out]; done) | (simp only [EN, brokerref05_SameProps_out]; rfl))
  · skip
    exact brokerref05_SameProps_l4_ok fuel p0 p1 0
def C50 (Γ : Fun) (γ67 : Gm (Bool)) : CFun := updC (bindC Γ) 67 brokerref05_SameProps_out γ67
theorem T50 (Γ : Fun) (γ67 : Gm (Bool)) (Λ2 J : Lam) (p0 : api_Message) (p1 : api_Message) : bodyC SE (C50 Γ γ67) Λ2 J 50 [api_Message.av p0, api_Message.av p1] [] [] =
  cond (p0.Topic == p1.Topic) (
   cond (p0.Payload == p1.Payload) (
    cond (p0.Level == p1.Level) (
     cond (p0.Retain == p1.Retain) (
      cond (p0.Priority == p1.Priority) (
       cond (p0.Expires == p1.Expires) (
        cond (p0.From == p1.From) (
         cond (p0.Seq == p1.Seq) (
          γ67 [.d (.sl api_Prop.ks (List.map api_Prop.enc p0.Props)), .d (.sl api_Prop.ks (List.map api_Prop.enc p1.Props))] [] [] fun r0 =>
          (some (.ret [.d (.bool r0)] [] []))) (
         (some (.ret [.d (.bool false)] [] [])))) (
        (some (.ret [.d (.bool false)] [] [])))) (
       (some (.ret [.d (.bool false)] [] [])))) (
      (some (.ret [.d (.bool false)] [] [])))) (
     (some (.ret [.d (.bool false)] [] [])))) (
    (some (.ret [.d (.bool false)] [] [])))) (
   (some (.ret [.d (.bool false)] [] [])))) (
  (some (.ret [.d (.bool false)] [] []))) := by kernel_rfl
abbrev X50 : CFun := C50 (callG SE good) (callT SE good 67 brokerref05_SameProps_out)
theorem Cr50 : C50 (callG SE good) (callT SE good 67 brokerref05_SameProps_out) = bindC (callG SE good) := by unfold C50; rw [updC_real (fun _ h => h)]
theorem brokerref05_Same_ok (p0 : api_Message) (p1 : api_Message) : Le (Option.map brokerref05_Same_out (brokerref05_Same p0 p1)) (callW SE 50 [api_Message.av p0, api_Message.av p1] [] []) := by
  refine le_bodyC Cr50 ?_
  refine Le.trans ?_ (le_of_eq (T50 _ _ _ _  p0 p1).symm)
  unfold brokerref05_Same
  refine le_cond rfl (fun _ => ?_) (fun _ => ?_)
  · skip
    refine le_cond rfl (fun _ => ?_) (fun _ => ?_)
    · skip
      refine le_cond rfl (fun _ => ?_) (fun _ => ?_)
      · skip
        refine le_cond rfl (fun _ => ?_) (fun _ => ?_)
        · skip
          refine le_cond rfl (fun _ => ?_) (fun _ => ?_)
          · skip
            refine le_cond rfl (fun _ => ?_) (fun _ => ?_)
            · skip
              refine le_cond rfl (fun _ => ?_) (fun _ => ?_)
              · skip
                refine le_cond rfl (fun _ => ?_) (fun _ => ?_)
                · skip
                  refine le_call (good := good) (fun y => ⟨y, rfl⟩) brokerref05_SameProps_inj (brokerref05_SameProps_ok p0.Props p1.Props) (fun r0 _ => ?_)
                  exact le_ret (by first | rfl | (simp only [EN, brokerref05_Same_out]; done) | (simp only [EN, brokerref05_Same_out]; rfl))
                · skip
                  exact le_ret (by first | rfl | (simp only [EN, brokerref05_Same_out]; done) | (simp only [EN, brokerref05_Same_out]; rfl))
              · skip
                exact le_ret (by first | rfl | (simp only [EN, brokerref05_Same_out]; done) | (simp only [EN, brokerref05_Same_out]; rfl))
            · skip
              exact le_ret (by first | rfl | (simp only [EN, brokerref05_Same_out]; done) | (simp only [EN, brokerref05_Same_out]; rfl))
          · skip
            exact le_ret (by first | rfl | (simp only [EN, brokerref05_Same_out]; done) | (simp only [EN, brokerref05_Same_out]; rfl))
        · skip
          exact le_ret (by first | rfl | (simp only [EN, brokerref05_Same_out]; done) | (simp only [EN, brokerref05_Same_out]; rfl))
      · skip
        exact le_ret (by first | rfl | (simp only [EN, brokerref05_Same_out]; done) | (simp only [EN, brokerref05_Same_out]; rfl))
    · skip
      exact le_ret (by first | rfl | (simp only [EN, brokerref05_Same_out]; done) | (simp only [EN, brokerref05_Same_out]; rfl))
  · skip
    exact le_ret (by first | rfl | (simp only [EN, brokerref05_Same_out]; done) | (simp only [EN, brokerref05_Same_out]; rfl))
def C51 (Γ : Fun) (γ50 : Gm (Bool)) : CFun := updC (bindC Γ) 50 brokerref05_Same_out γ50
theorem T51 (Γ : Fun) (γ50 : Gm (Bool)) (Λ2 J : Lam) (p0 : api_Will) (p1 : api_Will) : bodyC SE (C51 Γ γ50) Λ2 J 51 [api_Will.av p0, api_Will.av p1] [] [] =
  cond (p0.Set == p1.Set) (
   cond (p0.Delay == p1.Delay) (
    γ50 [api_Message.av p0.Message, api_Message.av p1.Message] [] [] fun r0 =>
    (some (.ret [.d (.bool r0)] [] []))) (
   (some (.ret [.d (.bool false)] [] [])))) (
  (some (.ret [.d (.bool false)] [] []))) := by kernel_rfl
abbrev X51 : CFun := C51 (callG SE good) (callT SE good 50 brokerref05_Same_out)
theorem Cr51 : C51 (callG SE good) (callT SE good 50 brokerref05_Same_out) = bindC (callG SE good) := by unfold C51; rw [updC_real (fun _ h => h)]
theorem brokerref06_SameWill_ok (p0 : api_Will) (p1 : api_Will) : Le (Option.map brokerref06_SameWill_out (brokerref06_SameWill p0 p1)) (callW SE 51 [api_Will.av p0, api_Will.av p1] [] []) := by
  refine le_bodyC Cr51 ?_
  refine Le.trans ?_ (le_of_eq (T51 _ _ _ _  p0 p1).symm)
  unfold brokerref06_SameWill
  refine le_cond rfl (fun _ => ?_) (fun _ => ?_)
  · skip
    refine le_cond rfl (fun _ => ?_) (fun _ => ?_)
    · skip
      refine le_call (good := good) (fun y => ⟨y, rfl⟩) brokerref05_Same_inj (brokerref05_Same_ok p0.Message p1.Message) (fun r0 _ => ?_)
      exact le_ret (by first | rfl | (simp only [EN, brokerref06_SameWill_out]; done) | (simp only [EN, brokerref06_SameWill_out]; rfl))
    · skip
      exact le_ret (by first | rfl | (simp only [EN, brokerref06_SameWill_out]; done) | (simp only [EN, brokerref06_SameWill_out]; rfl))
  · skip
    exact le_ret (by first | rfl | (simp only [EN, brokerref06_SameWill_out]; done) | (simp only [EN, brokerref06_SameWill_out]; rfl))
def C52 (Γ : Fun)  : CFun := bindC Γ
def R52_4 (C : CFun) (Λ2 J : Lam) (a0 : (List (List D))) (a1 : (List (List D))) (a2 : Int) : Res := lab SE C Λ2 J 52 0 [1, 1, 0, 1, 0] (stoOf [(0, .d (.sl api_Sub.ks a0)), (1, .d (.sl api_Sub.ks a1)), (5, .d (.int .i64 a2))] [] [] [] [])
theorem T52 (Γ : Fun)  (Λ2 J : Lam) (p0 : (List api_Sub)) (p1 : (List api_Sub)) : bodyC SE (C52 Γ) Λ2 J 52 [.d (.sl api_Sub.ks (List.map api_Sub.enc p0)), .d (.sl api_Sub.ks (List.map api_Sub.enc p1))] [] [] =
  cond ((List.length (List.map api_Sub.enc p0) : Int) != (List.length (List.map api_Sub.enc p1) : Int)) (
   (some (.ret [.d (.bool false)] [] []))) (
  R52_4 (C52 Γ) Λ2 J (List.map api_Sub.enc p0) (List.map api_Sub.enc p1) 0) := by kernel_rfl
theorem T52_4 (Γ : Fun)  (Λ2 J : Lam) (x0 : (List api_Sub)) (x1 : (List api_Sub)) (x5 : Int) : labU SE (C52 Γ) Λ2 J 52 0 [1, 1, 0, 1, 0] (stoOf [(0, .d (.sl api_Sub.ks (List.map api_Sub.enc x0))), (1, .d (.sl api_Sub.ks (List.map api_Sub.enc x1))), (5, .d (.int .i64 x5))] [] [] [] []) =
  cond (decide (x5 < (List.length (List.map api_Sub.enc x0) : Int))) (
   cond (decide (0 ≤ x5) && decide (x5 < (List.length (List.map api_Sub.enc x0) : Int))) (
    cond (decide (0 ≤ x5) && decide (x5 < (List.length (List.map api_Sub.enc x1) : Int))) (
     cond (!(((dStr (cellAt (elemAt (List.map api_Sub.enc x0) (Int.toNat x5)) 0)) == (dStr (cellAt (elemAt (List.map api_Sub.enc x1) (Int.toNat x5)) 0))) && (((dInt (cellAt (elemAt (List.map api_Sub.enc x0) (Int.toNat x5)) 1)) == (dInt (cellAt (elemAt (List.map api_Sub.enc x1) (Int.toNat x5)) 1))) && (((dBool (cellAt (elemAt (List.map api_Sub.enc x0) (Int.toNat x5)) 2)) == (dBool (cellAt (elemAt (List.map api_Sub.enc x1) (Int.toNat x5)) 2))) && true)))) (
      (some (.ret [.d (.bool false)] [] []))) (
     R52_4 (C52 Γ) Λ2 J (List.map api_Sub.enc x0) (List.map api_Sub.enc x1) (IntKind.wrap .i64 (x5 + 1)))) none) none) (
  (some (.ret [.d (.bool true)] [] []))) := by kernel_rfl
abbrev X52 : CFun := C52 (callG SE good)
theorem Cr52 : C52 (callG SE good) = bindC (callG SE good) := by unfold C52; rfl
noncomputable abbrev Q52_4 (a0 : (List (List D))) (a1 : (List (List D))) (a2 : Int) : Res := R52_4 X52 (lam2 SE (callG SE good) (SE.hl 52) (SE.hr 52)) (J0 SE X52) a0 a1 a2
theorem brokerref06_SameSubs_l4_ok : ∀ (fu : Nat) (x0 : (List api_Sub)) (x1 : (List api_Sub)) (x5 : Int), Le (Option.map brokerref06_SameSubs_out (brokerref06_SameSubs_l4 fu x0 x1 x5)) (Q52_4 (List.map api_Sub.enc x0) (List.map api_Sub.enc x1) x5) := by
  intro fu
  induction fu with
  | zero => intros; exact le_none
  | succ fu ih =>
    intro x0 x1 x5
    refine Le.trans ?_ (le_of_eq ((lab_realC Cr52).trans (T52_4 _ _ _  x0 x1 x5)).symm)
    unfold brokerref06_SameSubs_l4
    refine le_cond (by simp only [EN]) (fun _ => ?_) (fun _ => ?_)
    · skip
      refine le_cond (by simp only [EN]) (fun _ => ?_) (fun _ => le_none)
      refine le_cond (by simp only [EN]) (fun _ => ?_) (fun _ => le_none)
      refine le_cond (by simp only [EN]) (fun _ => ?_) (fun _ => ?_)
      · skip
        exact le_ret (by first | rfl | (simp only [EN, brokerref06_SameSubs_out]; done) | (simp only [EN, brokerref06_SameSubs_out]; rfl))
      · skip
        exact ih x0 x1 (IntKind.wrap .i64 (x5 + 1))
    · skip
      exact le_ret (by first | rfl | (simp only [EN, brokerref06_SameSubs_out]; done) | (simp only [EN, brokerref06_SameSubs_out]; rfl))
theorem brokerref06_SameSubs_ok (p0 : (List api_Sub)) (p1 : (List api_Sub)) : Le (Option.map brokerref06_SameSubs_out (brokerref06_SameSubs p0 p1)) (callW SE 52 [.d (.sl api_Sub.ks (List.map api_Sub.enc p0)), .d (.sl api_Sub.ks (List.map api_Sub.enc p1))] [] []) := by
  refine le_bodyC Cr52 ?_
  refine Le.trans ?_ (le_of_eq (T52 _ _ _  p0 p1).symm)
  unfold brokerref06_SameSubs
  refine le_cond (by simp only [EN]) (fun _ => ?_) (fun _ => ?_)
  · skip
    exact le_ret (by first | rfl | (simp only [EN, brokerref06_SameSubs_out]; done) | (simp only [EN, brokerref06_SameSubs_out]; rfl))
  · skip
    exact brokerref06_SameSubs_l4_ok fuel p0 p1 0
def C53 (Γ : Fun)  : CFun := bindC Γ
def R53_4 (C : CFun) (Λ2 J : Lam) (a0 : (List (List D))) (a1 : (List (List D))) (a2 : Int) : Res := lab SE C Λ2 J 53 0 [1, 1, 0, 1, 0] (stoOf [(0, .d (.sl [.str] a0)), (1, .d (.sl [.str] a1)), (5, .d (.int .i64 a2))] [] [] [] [])
theorem T53 (Γ : Fun)  (Λ2 J : Lam) (p0 : (List Str)) (p1 : (List Str)) : bodyC SE (C53 Γ) Λ2 J 53 [.d (.sl [.str] (List.map encS p0)), .d (.sl [.str] (List.map encS p1))] [] [] =
  cond ((List.length (List.map encS p0) : Int) != (List.length (List.map encS p1) : Int)) (
   (some (.ret [.d (.bool false)] [] []))) (
  R53_4 (C53 Γ) Λ2 J (List.map encS p0) (List.map encS p1) 0) := by kernel_rfl
theorem T53_4 (Γ : Fun)  (Λ2 J : Lam) (x0 : (List Str)) (x1 : (List Str)) (x5 : Int) : labU SE (C53 Γ) Λ2 J 53 0 [1, 1, 0, 1, 0] (stoOf [(0, .d (.sl [.str] (List.map encS x0))), (1, .d (.sl [.str] (List.map encS x1))), (5, .d (.int .i64 x5))] [] [] [] []) =
  cond (decide (x5 < (List.length (List.map encS x0) : Int))) (
   cond (decide (0 ≤ x5) && decide (x5 < (List.length (List.map encS x0) : Int))) (
    cond (decide (0 ≤ x5) && decide (x5 < (List.length (List.map encS x1) : Int))) (
     cond (!((dStr (cellAt (elemAt (List.map encS x0) (Int.toNat x5)) 0)) == (dStr (cellAt (elemAt (List.map encS x1) (Int.toNat x5)) 0)))) (
      (some (.ret [.d (.bool false)] [] []))) (
     R53_4 (C53 Γ) Λ2 J (List.map encS x0) (List.map encS x1) (IntKind.wrap .i64 (x5 + 1)))) none) none) (
  (some (.ret [.d (.bool true)] [] []))) := by kernel_rfl
abbrev X53 : CFun := C53 (callG SE good)
theorem Cr53 : C53 (callG SE good) = bindC (callG SE good) := by unfold C53; rfl
noncomputable abbrev Q53_4 (a0 : (List (List D))) (a1 : (List (List D))) (a2 : Int) : Res := R53_4 X53 (lam2 SE (callG SE good) (SE.hl 53) (SE.hr 53)) (J0 SE X53) a0 a1 a2
theorem brokerref01_Same_l4_ok : ∀ (fu : Nat) (x0 : (List Str)) (x1 : (List Str)) (x5 : Int), Le (Option.map brokerref01_Same_out (brokerref01_Same_l4 fu x0 x1 x5)) (Q53_4 (List.map encS x0) (List.map encS x1) x5) := by
  intro fu
  induction fu with
  | zero => intros; exact le_none
  | succ fu ih =>
    intro x0 x1 x5
    refine Le.trans ?_ (le_of_eq ((lab_realC Cr53).trans (T53_4 _ _ _  x0 x1 x5)).symm)
    unfold brokerref01_Same_l4
    refine le_cond (by simp only [EN]) (fun _ => ?_) (fun _ => ?_)
    · skip
      refine le_cond (by simp only [EN]) (fun _ => ?_) (fun _ => le_none)
      refine le_cond (by simp only [EN]) (fun _ => ?_) (fun _ => le_none)
      refine le_cond (by simp only [EN]) (fun _ => ?_) (fun _ => ?_)
      · skip
        exact le_ret (by first | rfl | (simp only [EN, brokerref01_Same_out]; done) | (simp only [EN, brokerref01_Same_out]; rfl))
      · skip
        exact ih x0 x1 (IntKind.wrap .i64 (x5 + 1))
    · skip
      exact le_ret (by first | rfl | (simp only [EN, brokerref01_Same_out]; done) | (simp only [EN, brokerref01_Same_out]; rfl))
theorem brokerref01_Same_ok (p0 : (List Str)) (p1 : (List Str)) : Le (Option.map brokerref01_Same_out (brokerref01_Same p0 p1)) (callW SE 53 [.d (.sl [.str] (List.map encS p0)), .d (.sl [.str] (List.map encS p1))] [] []) := by
  refine le_bodyC Cr53 ?_
  refine Le.trans ?_ (le_of_eq (T53 _ _ _  p0 p1).symm)
  unfold brokerref01_Same
  refine le_cond (by simp only [EN]) (fun _ => ?_) (fun _ => ?_)
  · skip
    exact le_ret (by first | rfl | (simp only [EN, brokerref01_Same_out]; done) | (simp only [EN, brokerref01_Same_out]; rfl))
  · skip
    exact brokerref01_Same_l4_ok fuel p0 p1 0
def C54 (Γ : Fun)  : CFun := bindC Γ
def R54_4 (C : CFun) (Λ2 J : Lam) (a0 : (List (List D))) (a1 : (List (List D))) (a2 : Int) : Res := lab SE C Λ2 J 54 0 [1, 1, 0, 1, 0] (stoOf [(0, .d (.sl [.int .i64] a0)), (1, .d (.sl [.int .i64] a1)), (5, .d (.int .i64 a2))] [] [] [] [])
theorem T54 (Γ : Fun)  (Λ2 J : Lam) (p0 : (List Int)) (p1 : (List Int)) : bodyC SE (C54 Γ) Λ2 J 54 [.d (.sl [.int .i64] (List.map (encI .i64) p0)), .d (.sl [.int .i64] (List.map (encI .i64) p1))] [] [] =
  cond ((List.length (List.map (encI .i64) p0) : Int) != (List.length (List.map (encI .i64) p1) : Int)) (
   (some (.ret [.d (.bool false)] [] []))) (
  R54_4 (C54 Γ) Λ2 J (List.map (encI .i64) p0) (List.map (encI .i64) p1) 0) := by kernel_rfl
theorem T54_4 (Γ : Fun)  (Λ2 J : Lam) (x0 : (List Int)) (x1 : (List Int)) (x5 : Int) : labU SE (C54 Γ) Λ2 J 54 0 [1, 1, 0, 1, 0] (stoOf [(0, .d (.sl [.int .i64] (List.map (encI .i64) x0))), (1, .d (.sl [.int .i64] (List.map (encI .i64) x1))), (5, .d (.int .i64 x5))] [] [] [] []) =
  cond (decide (x5 < (List.length (List.map (encI .i64) x0) : Int))) (
   cond (decide (0 ≤ x5) && decide (x5 < (List.length (List.map (encI .i64) x0) : Int))) (
    cond (decide (0 ≤ x5) && decide (x5 < (List.length (List.map (encI .i64) x1) : Int))) (
     cond ((dInt (cellAt (elemAt (List.map (encI .i64) x0) (Int.toNat x5)) 0)) != (dInt (cellAt (elemAt (List.map (encI .i64) x1) (Int.toNat x5)) 0))) (
      (some (.ret [.d (.bool false)] [] []))) (
     R54_4 (C54 Γ) Λ2 J (List.map (encI .i64) x0) (List.map (encI .i64) x1) (IntKind.wrap .i64 (x5 + 1)))) none) none) (
  (some (.ret [.d (.bool true)] [] []))) := by kernel_rfl
abbrev X54 : CFun := C54 (callG SE good)
theorem Cr54 : C54 (callG SE good) = bindC (callG SE good) := by unfold C54; rfl
noncomputable abbrev Q54_4 (a0 : (List (List D))) (a1 : (List (List D))) (a2 : Int) : Res := R54_4 X54 (lam2 SE (callG SE good) (SE.hl 54) (SE.hr 54)) (J0 SE X54) a0 a1 a2
theorem brokerref06_SameNumbers_l4_ok : ∀ (fu : Nat) (x0 : (List Int)) (x1 : (List Int)) (x5 : Int), Le (Option.map brokerref06_SameNumbers_out (brokerref06_SameNumbers_l4 fu x0 x1 x5)) (Q54_4 (List.map (encI .i64) x0) (List.map (encI .i64) x1) x5) := by
  intro fu
  induction fu with
  | zero => intros; exact le_none
  | succ fu ih =>
    intro x0 x1 x5
    refine Le.trans ?_ (le_of_eq ((lab_realC Cr54).trans (T54_4 _ _ _  x0 x1 x5)).symm)
    unfold brokerref06_SameNumbers_l4
    refine le_cond (by simp only [EN]) (fun _ => ?_) (fun _ => ?_)
    · skip
      refine le_cond (by simp only [EN]) (fun _ => ?_) (fun _ => le_none)
      refine le_cond (by simp only [EN]) (fun _ => ?_) (fun _ => le_none)
      refine le_cond (by simp only [EN]) (fun _ => ?_) (fun _ => ?_)
      · skip
        exact le_ret (by first | rfl | (simp only [EN, brokerref06_SameNumbers_out]; done) | (simp only [EN, brokerref06_SameNumbers_out]; rfl))
      · skip
        exact ih x0 x1 (IntKind.wrap .i64 (x5 + 1))
    · skip
      exact le_ret (by first | rfl | (simp only [EN, brokerref06_SameNumbers_out]; done) | (simp only [EN, brokerref06_SameNumbers_out]; rfl))
theorem brokerref06_SameNumbers_ok (p0 : (List Int)) (p1 : (List Int)) : Le (Option.map brokerref06_SameNumbers_out (brokerref06_SameNumbers p0 p1)) (callW SE 54 [.d (.sl [.int .i64] (List.map (encI .i64) p0)), .d (.sl [.int .i64] (List.map (encI .i64) p1))] [] []) := by
  refine le_bodyC Cr54 ?_
  refine Le.trans ?_ (le_of_eq (T54 _ _ _  p0 p1).symm)
  unfold brokerref06_SameNumbers
  refine le_cond (by simp only [EN]) (fun _ => ?_) (fun _ => ?_)
  · skip
    exact le_ret (by first | rfl | (simp only [EN, brokerref06_SameNumbers_out]; done) | (simp only [EN, brokerref06_SameNumbers_out]; rfl))
  · skip
    exact brokerref06_SameNumbers_l4_ok fuel p0 p1 0
def C27 (Γ : Fun) (γ50 : Gm (Bool)) (γ51 : Gm (Bool)) (γ52 : Gm (Bool)) (γ53 : Gm (Bool)) (γ54 : Gm (Bool)) : CFun := updC (updC (updC (updC (updC (bindC Γ) 50 brokerref05_Same_out γ50) 51 brokerref06_SameWill_out γ51) 52 brokerref06_SameSubs_out γ52) 53 brokerref01_Same_out γ53) 54 brokerref06_SameNumbers_out γ54
def R27_5 (C : CFun) (Λ2 J : Lam) (a0 : (List D)) (a1 : (List D)) : Res := lab SE C Λ2 J 27 0 [1, 1, 1, 0] (stoOf [(2, .ptr 1000000000 0), (3, .ptr 1000000001 0)] [⟨39, (List.map AV.d a0)⟩, ⟨39, (List.map AV.d a1)⟩] [] [] [])
def R27_3 (C : CFun) (Λ2 J : Lam) (a0 : (List D)) (a1 : (List D)) : Res := lab SE C Λ2 J 27 0 [1, 1, 0, 0] (stoOf [(2, .ptr 1000000000 0), (3, .ptr 1000000001 0)] [⟨39, (List.map AV.d a0)⟩, ⟨39, (List.map AV.d a1)⟩] [] [] [])
theorem T27 (Γ : Fun) (γ50 : Gm (Bool)) (γ51 : Gm (Bool)) (γ52 : Gm (Bool)) (γ53 : Gm (Bool)) (γ54 : Gm (Bool)) (Λ2 J : Lam) (p0 : api_Packet) (p1 : api_Packet) : bodyC SE (C27 Γ γ50 γ51 γ52 γ53 γ54) Λ2 J 27 [api_Packet.av p0, api_Packet.av p1] [] [] =
  cond (p0.Kind != p1.Kind) (
   (some (.ret [.d (.bool false)] [] []))) (
  cond (p0.ID != p1.ID) (
   (some (.ret [.d (.bool false)] [] []))) (
  cond (p0.Dup != p1.Dup) (
   (some (.ret [.d (.bool false)] [] []))) (
  γ50 [api_Message.av p0.Message, api_Message.av p1.Message] [] [] fun r0 =>
  cond (!r0) (
   (some (.ret [.d (.bool false)] [] []))) (
  cond (!(p0.Client == p1.Client)) (
   (some (.ret [.d (.bool false)] [] []))) (
  cond (!(p0.User == p1.User)) (
   (some (.ret [.d (.bool false)] [] []))) (
  R27_3 (C27 Γ γ50 γ51 γ52 γ53 γ54) Λ2 J (api_Packet.enc p0) (api_Packet.enc p1))))))) := by kernel_rfl
theorem T27_5 (Γ : Fun) (γ50 : Gm (Bool)) (γ51 : Gm (Bool)) (γ52 : Gm (Bool)) (γ53 : Gm (Bool)) (γ54 : Gm (Bool)) (Λ2 J : Lam) (b0 : api_Packet) (b1 : api_Packet) : labU SE (C27 Γ γ50 γ51 γ52 γ53 γ54) Λ2 J 27 0 [1, 1, 1, 0] (stoOf [(2, .ptr 1000000000 0), (3, .ptr 1000000001 0)] [⟨39, (List.map AV.d (api_Packet.enc b0))⟩, ⟨39, (List.map AV.d (api_Packet.enc b1))⟩] [] [] []) =
  cond (b0.Present == b1.Present) (
   cond (b0.Code == b1.Code) (
    γ52 [.d (.sl api_Sub.ks (List.map api_Sub.enc b0.Subs)), .d (.sl api_Sub.ks (List.map api_Sub.enc b1.Subs))] [] [] fun r2 =>
    cond r2 (
     γ53 [.d (.sl [.str] (List.map encS b0.Filters)), .d (.sl [.str] (List.map encS b1.Filters))] [] [] fun r3 =>
     cond r3 (
      γ54 [.d (.sl [.int .i64] (List.map (encI .i64) b0.Codes)), .d (.sl [.int .i64] (List.map (encI .i64) b1.Codes))] [] [] fun r4 =>
      (some (.ret [.d (.bool r4)] [] []))) (
     (some (.ret [.d (.bool false)] [] [])))) (
    (some (.ret [.d (.bool false)] [] [])))) (
   (some (.ret [.d (.bool false)] [] [])))) (
  (some (.ret [.d (.bool false)] [] []))) := by kernel_rfl
theorem T27_3 (Γ : Fun) (γ50 : Gm (Bool)) (γ51 : Gm (Bool)) (γ52 : Gm (Bool)) (γ53 : Gm (Bool)) (γ54 : Gm (Bool)) (Λ2 J : Lam) (b0 : api_Packet) (b1 : api_Packet) : labU SE (C27 Γ γ50 γ51 γ52 γ53 γ54) Λ2 J 27 0 [1, 1, 0, 0] (stoOf [(2, .ptr 1000000000 0), (3, .ptr 1000000001 0)] [⟨39, (List.map AV.d (api_Packet.enc b0))⟩, ⟨39, (List.map AV.d (api_Packet.enc b1))⟩] [] [] []) =
  cond (b0.Clean != b1.Clean) (
   (some (.ret [.d (.bool false)] [] []))) (
  cond (b0.Keep != b1.Keep) (
   (some (.ret [.d (.bool false)] [] []))) (
  cond (b0.Expiry != b1.Expiry) (
   (some (.ret [.d (.bool false)] [] []))) (
  cond (b0.Window != b1.Window) (
   (some (.ret [.d (.bool false)] [] []))) (
  γ51 [api_Will.av b0.Will, api_Will.av b1.Will] [] [] fun r1 =>
  cond (!r1) (
   (some (.ret [.d (.bool false)] [] []))) (
  R27_5 (C27 Γ γ50 γ51 γ52 γ53 γ54) Λ2 J (api_Packet.enc b0) (api_Packet.enc b1)))))) := by kernel_rfl
abbrev X27 : CFun := C27 (callG SE good) (callT SE good 50 brokerref05_Same_out) (callT SE good 51 brokerref06_SameWill_out) (callT SE good 52 brokerref06_SameSubs_out) (callT SE good 53 brokerref01_Same_out) (callT SE good 54 brokerref06_SameNumbers_out)
theorem Cr27 : C27 (callG SE good) (callT SE good 50 brokerref05_Same_out) (callT SE good 51 brokerref06_SameWill_out) (callT SE good 52 brokerref06_SameSubs_out) (callT SE good 53 brokerref01_Same_out) (callT SE good 54 brokerref06_SameNumbers_out) = bindC (callG SE good) := by unfold C27; rw [updC_real (fun _ h => h), updC_real (fun _ h => h), updC_real (fun _ h => h), updC_real (fun _ h => h), updC_real (fun _ h => h)]
noncomputable abbrev Q27_5 (a0 : (List D)) (a1 : (List D)) : Res := R27_5 X27 (lam2 SE (callG SE good) (SE.hl 27) (SE.hr 27)) (J0 SE X27) a0 a1
noncomputable abbrev Q27_3 (a0 : (List D)) (a1 : (List D)) : Res := R27_3 X27 (lam2 SE (callG SE good) (SE.hl 27) (SE.hr 27)) (J0 SE X27) a0 a1
theorem brokerref06_Same_j5_ok (b0 : api_Packet) (b1 : api_Packet) : Le (Option.map brokerref06_Same_out (brokerref06_Same_j5 b0 b1)) (Q27_5 (api_Packet.enc b0) (api_Packet.enc b1)) := by
  refine Le.trans ?_ (le_of_eq ((lab_realC Cr27).trans (T27_5 _ _ _ _ _ _ _ _  b0 b1)).symm)
  unfold brokerref06_Same_j5
  refine le_cond rfl (fun _ => ?_) (fun _ => ?_)
  · skip
    refine le_cond rfl (fun _ => ?_) (fun _ => ?_)
    · skip
      refine le_call (good := good) (fun y => ⟨y, rfl⟩) brokerref06_SameSubs_inj (brokerref06_SameSubs_ok b0.Subs b1.Subs) (fun r2 _ => ?_)
      refine le_cond rfl (fun _ => ?_) (fun _ => ?_)
      · skip
        refine le_call (good := good) (fun y => ⟨y, rfl⟩) brokerref01_Same_inj (brokerref01_Same_ok b0.Filters b1.Filters) (fun r3 _ => ?_)
        refine le_cond rfl (fun _ => ?_) (fun _ => ?_)
        · skip
          refine le_call (good := good) (fun y => ⟨y, rfl⟩) brokerref06_SameNumbers_inj (brokerref06_SameNumbers_ok b0.Codes b1.Codes) (fun r4 _ => ?_)
          exact le_ret (by first | rfl | (simp only [EN, brokerref06_Same_out]; done) | (simp only [EN, brokerref06_Same_out]; rfl))
        · skip
          exact le_ret (by first | rfl | (simp only [EN, brokerref06_Same_out]; done) | (simp only [EN, brokerref06_Same_out]; rfl))
      · skip
        exact le_ret (by first | rfl | (simp only [EN, brokerref06_Same_out]; done) | (simp only [EN, brokerref06_Same_out]; rfl))
    · skip
      exact le_ret (by first | rfl | (simp only [EN, brokerref06_Same_out]; done) | (simp only [EN, brokerref06_Same_out]; rfl))
  · skip
    exact le_ret (by first | rfl | (simp only [EN, brokerref06_Same_out]; done) | (simp only [EN, brokerref06_Same_out]; rfl))
theorem brokerref06_Same_j3_ok (b0 : api_Packet) (b1 : api_Packet) : Le (Option.map brokerref06_Same_out (brokerref06_Same_j3 b0 b1)) (Q27_3 (api_Packet.enc b0) (api_Packet.enc b1)) := by
  refine Le.trans ?_ (le_of_eq ((lab_realC Cr27).trans (T27_3 _ _ _ _ _ _ _ _  b0 b1)).symm)
  unfold brokerref06_Same_j3
  refine le_cond rfl (fun _ => ?_) (fun _ => ?_)
  · skip
    exact le_ret (by first | rfl | (simp only [EN, brokerref06_Same_out]; done) | (simp only [EN, brokerref06_Same_out]; rfl))
  · skip
    refine le_cond rfl (fun _ => ?_) (fun _ => ?_)
    · skip
      exact le_ret (by first | rfl | (simp only [EN, brokerref06_Same_out]; done) | (simp only [EN, brokerref06_Same_out]; rfl))
    · skip
      refine le_cond rfl (fun _ => ?_) (fun _ => ?_)
      · skip
        exact le_ret (by first | rfl | (simp only [EN, brokerref06_Same_out]; done) | (simp only [EN, brokerref06_Same_out]; rfl))
      · skip
        refine le_cond rfl (fun _ => ?_) (fun _ => ?_)
        · skip
          exact le_ret (by first | rfl | (simp only [EN, brokerref06_Same_out]; done) | (simp only [EN, brokerref06_Same_out]; rfl))
        · skip
          refine le_call (good := good) (fun y => ⟨y, rfl⟩) brokerref06_SameWill_inj (brokerref06_SameWill_ok b0.Will b1.Will) (fun r1 _ => ?_)
          refine le_cond rfl (fun _ => ?_) (fun _ => ?_)
          · skip
            exact le_ret (by first | rfl | (simp only [EN, brokerref06_Same_out]; done) | (simp only [EN, brokerref06_Same_out]; rfl))
          · skip
            exact brokerref06_Same_j5_ok b0 b1
theorem brokerref06_Same_ok (p0 : api_Packet) (p1 : api_Packet) : Le (Option.map brokerref06_Same_out (brokerref06_Same p0 p1)) (callW SE 27 [api_Packet.av p0, api_Packet.av p1] [] []) := by
  refine le_bodyC Cr27 ?_
  refine Le.trans ?_ (le_of_eq (T27 _ _ _ _ _ _ _ _  p0 p1).symm)
  unfold brokerref06_Same
  refine le_cond rfl (fun _ => ?_) (fun _ => ?_)
  · skip
    exact le_ret (by first | rfl | (simp only [EN, brokerref06_Same_out]; done) | (simp only [EN, brokerref06_Same_out]; rfl))
  · skip
    refine le_cond rfl (fun _ => ?_) (fun _ => ?_)
    · skip
      exact le_ret (by first | rfl | (simp only [EN, brokerref06_Same_out]; done) | (simp only [EN, brokerref06_Same_out]; rfl))
    · skip
      refine le_cond rfl (fun _ => ?_) (fun _ => ?_)
      · skip
        exact le_ret (by first | rfl | (simp only [EN, brokerref06_Same_out]; done) | (simp only [EN, brokerref06_Same_out]; rfl))
      · skip
        refine le_call (good := good) (fun y => ⟨y, rfl⟩) brokerref05_Same_inj (brokerref05_Same_ok p0.Message p1.Message) (fun r0 _ => ?_)
        refine le_cond rfl (fun _ => ?_) (fun _ => ?_)
        · skip
          exact le_ret (by first | rfl | (simp only [EN, brokerref06_Same_out]; done) | (simp only [EN, brokerref06_Same_out]; rfl))
        · skip
          refine le_cond rfl (fun _ => ?_) (fun _ => ?_)
          · skip
            exact le_ret (by first | rfl | (simp only [EN, brokerref06_Same_out]; done) | (simp only [EN, brokerref06_Same_out]; rfl))
          · skip
            refine le_cond rfl (fun _ => ?_) (fun _ => ?_)
            · skip
              exact le_ret (by first | rfl | (simp only [EN, brokerref06_Same_out]; done) | (simp only [EN, brokerref06_Same_out]; rfl))
            · skip
              exact brokerref06_Same_j3_ok p0 p1
def C80 (Γ : Fun)  : CFun := bindC Γ
def R80_2 (C : CFun) (Λ2 J : Lam) (a0 : Str) (a1 : Int) (a2 : Int) : Res := lab SE C Λ2 J 80 0 [1, 0, 1, 0] (stoOf [(0, .d (.str a0)), (1, .d (.int .u8 a1)), (5, .d (.int .i64 a2))] [] [] [] [])
theorem T80 (Γ : Fun)  (Λ2 J : Lam) (p0 : Str) (p1 : Int) : bodyC SE (C80 Γ) Λ2 J 80 [.d (.str p0), .d (.int .u8 p1)] [] [] =
  R80_2 (C80 Γ) Λ2 J p0 p1 0 := by kernel_rfl
theorem T80_2 (Γ : Fun)  (Λ2 J : Lam) (x0 : Str) (x1 : Int) (x5 : Int) : labU SE (C80 Γ) Λ2 J 80 0 [1, 0, 1, 0] (stoOf [(0, .d (.str x0)), (1, .d (.int .u8 x1)), (5, .d (.int .i64 x5))] [] [] [] []) =
  cond (decide (x5 < (List.length x0 : Int))) (
   cond (decide (0 ≤ x5) && decide (x5 < (List.length x0 : Int))) (
    cond ((UInt8.toNat (List.getD x0 (Int.toNat x5) 0) : Int) == x1) (
     (some (.ret [.d (.bool true)] [] []))) (
    R80_2 (C80 Γ) Λ2 J x0 x1 (IntKind.wrap .i64 (x5 + 1)))) none) (
  (some (.ret [.d (.bool false)] [] []))) := by kernel_rfl
abbrev X80 : CFun := C80 (callG SE good)
theorem Cr80 : C80 (callG SE good) = bindC (callG SE good) := by unfold C80; rfl
noncomputable abbrev Q80_2 (a0 : Str) (a1 : Int) (a2 : Int) : Res := R80_2 X80 (lam2 SE (callG SE good) (SE.hl 80) (SE.hr 80)) (J0 SE X80) a0 a1 a2
theorem brokerref01_Has_l2_ok : ∀ (fu : Nat) (x0 : Str) (x1 : Int) (x5 : Int), Le (Option.map brokerref01_Has_out (brokerref01_Has_l2 fu x0 x1 x5)) (Q80_2 x0 x1 x5) := by
  intro fu
  induction fu with
  | zero => intros; exact le_none
  | succ fu ih =>
    intro x0 x1 x5
    refine Le.trans ?_ (le_of_eq ((lab_realC Cr80).trans (T80_2 _ _ _  x0 x1 x5)).symm)
    unfold brokerref01_Has_l2
    refine le_cond rfl (fun _ => ?_) (fun _ => ?_)
    · skip
      refine le_cond rfl (fun _ => ?_) (fun _ => le_none)
      refine le_cond rfl (fun _ => ?_) (fun _ => ?_)
      · skip
        exact le_ret (by first | rfl | (simp only [EN, brokerref01_Has_out]; done) | (simp only [EN, brokerref01_Has_out]; rfl))
      · skip
        exact ih x0 x1 (IntKind.wrap .i64 (x5 + 1))
    · skip
      exact le_ret (by first | rfl | (simp only [EN, brokerref01_Has_out]; done) | (simp only [EN, brokerref01_Has_out]; rfl))
theorem brokerref01_Has_ok (p0 : Str) (p1 : Int) : Le (Option.map brokerref01_Has_out (brokerref01_Has p0 p1)) (callW SE 80 [.d (.str p0), .d (.int .u8 p1)] [] []) := by
  refine le_bodyC Cr80 ?_
  refine Le.trans ?_ (le_of_eq (T80 _ _ _  p0 p1).symm)
  unfold brokerref01_Has
  exact brokerref01_Has_l2_ok fuel p0 p1 0
end Te
end PX
