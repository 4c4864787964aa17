import Derived.Test.YthdnhkmigddbgaaDoorTre1
set_option linter.unusedVariables false
set_option linter.unusedSimpArgs false
set_option linter.unusedVariables false
set_option linter.unusedSimpArgs false
set_option maxRecDepth 100000
noncomputable section
namespace PX
open Go
open Md
namespace Te
def C82 (Γ : Fun)  : CFun := bindC Γ
def R82_4 (C : CFun) (Λ2 J : Lam) (a0 : Str) (a1 : Int) (a2 : Int) (a3 : (List (List D))) : Res := lab SE C Λ2 J 82 0 [1, 1, 1, 0, 1, 0] (stoOf [(0, .d (.str a0)), (3, .row 3003), (4, .d (.int .i64 a1)), (5, .d (.int .i64 a2))] [] [] [] [(3003, ⟨[.str], 9, 16, a3⟩)])
theorem T82 (Γ : Fun)  (Λ2 J : Lam) (p0 : Str) : bodyC SE (C82 Γ) Λ2 J 82 [.d (.str p0)] [] [] =
  R82_4 (C82 Γ) Λ2 J p0 0 0 (List.map encS []) := by kernel_rfl
theorem T82_4 (Γ : Fun)  (Λ2 J : Lam) (x0 : Str) (x4 : Int) (x5 : Int) (w3003 : (List Str)) : labU SE (C82 Γ) Λ2 J 82 0 [1, 1, 1, 0, 1, 0] (stoOf [(0, .d (.str x0)), (3, .row 3003), (4, .d (.int .i64 x4)), (5, .d (.int .i64 x5))] [] [] [] [(3003, ⟨[.str], 9, 16, (List.map encS w3003)⟩)]) =
  cond (decide (x5 < (List.length x0 : Int))) (
   cond (decide (0 ≤ x5) && decide (x5 < (List.length x0 : Int))) (
    cond ((UInt8.toNat (List.getD x0 (Int.toNat x5) 0) : Int) == 47) (
     cond (decide (0 ≤ x5) && decide (x5 ≤ ((List.length x0) : Int))) (
      cond (decide (0 ≤ x4) && decide (x4 ≤ x5)) (
       cond (decide ((List.length (List.map encS w3003) + List.length (List.map encS [(cutL x0 (some x4) (some x5))])) * 16 ≤ 140737488355328)) (
        R82_4 (C82 Γ) Λ2 J x0 (IntKind.wrap .i64 (x5 + 1)) (IntKind.wrap .i64 (x5 + 1)) (((List.map encS w3003) ++ (List.map encS [(cutL x0 (some x4) (some x5))])))) none) none) none) (
    R82_4 (C82 Γ) Λ2 J x0 x4 (IntKind.wrap .i64 (x5 + 1)) (List.map encS w3003))) none) (
  cond (decide (0 ≤ x4) && decide (x4 ≤ ((List.length x0) : Int))) (
   cond (decide ((List.length (List.map encS w3003) + List.length (List.map encS [(cutL x0 (some x4) none)])) * 16 ≤ 140737488355328)) (
    (some (.ret [.row 0] [] [⟨[.str], 9, 16, ((List.map encS w3003) ++ (List.map encS [(cutL x0 (some x4) none)]))⟩]))) none) none) := by kernel_rfl
abbrev X82 : CFun := C82 (callG SE good)
theorem Cr82 : C82 (callG SE good) = bindC (callG SE good) := by unfold C82; rfl
noncomputable abbrev Q82_4 (a0 : Str) (a1 : Int) (a2 : Int) (a3 : (List (List D))) : Res := R82_4 X82 (lam2 SE (callG SE good) (SE.hl 82) (SE.hr 82)) (J0 SE X82) a0 a1 a2 a3
theorem brokerref01_Levels_l4_ok : ∀ (fu : Nat) (x0 : Str) (x4 : Int) (x5 : Int) (w3003 : (List Str)), Le (Option.map brokerref01_Levels_out (brokerref01_Levels_l4 fu x0 x4 x5 w3003)) (Q82_4 x0 x4 x5 (List.map encS w3003)) := by
  intro fu
  induction fu with
  | zero => intros; exact le_none
  | succ fu ih =>
    intro x0 x4 x5 w3003
    refine Le.trans ?_ (le_of_eq ((lab_realC Cr82).trans (T82_4 _ _ _  x0 x4 x5 w3003)).symm)
    unfold brokerref01_Levels_l4
    refine le_cond rfl (fun _ => ?_) (fun _ => ?_)
    · skip
      refine le_cond rfl (fun _ => ?_) (fun _ => le_none)
      refine le_cond rfl (fun _ => ?_) (fun _ => ?_)
      · skip
        refine le_cond rfl (fun _ => ?_) (fun _ => le_none)
        refine le_cond rfl (fun _ => ?_) (fun _ => le_none)
        refine le_cond (by simp only [EN]) (fun _ => ?_) (fun _ => le_none)
        first | (simp only [EN]; exact ih x0 (IntKind.wrap .i64 (x5 + 1)) (IntKind.wrap .i64 (x5 + 1)) ((w3003 ++ [(cutL x0 (some x4) (some x5))]))) | exact ih x0 (IntKind.wrap .i64 (x5 + 1)) (IntKind.wrap .i64 (x5 + 1)) ((w3003 ++ [(cutL x0 (some x4) (some x5))]))
      · skip
        exact ih x0 x4 (IntKind.wrap .i64 (x5 + 1)) w3003
    · skip
      refine le_cond rfl (fun _ => ?_) (fun _ => le_none)
      refine le_cond (by simp only [EN]) (fun _ => ?_) (fun _ => le_none)
      exact le_ret (by first | rfl | (simp only [EN, brokerref01_Levels_out]; done) | (simp only [EN, brokerref01_Levels_out]; rfl))
theorem brokerref01_Levels_ok (p0 : Str) : Le (Option.map brokerref01_Levels_out (brokerref01_Levels p0)) (callW SE 82 [.d (.str p0)] [] []) := by
  refine le_bodyC Cr82 ?_
  refine Le.trans ?_ (le_of_eq (T82 _ _ _  p0).symm)
  unfold brokerref01_Levels
  first | (simp only [EN]; exact brokerref01_Levels_l4_ok fuel p0 0 0 ([] : List Str)) | exact brokerref01_Levels_l4_ok fuel p0 0 0 ([] : List Str)
def C79 (Γ : Fun) (γ80 : Gm (Bool)) (γ82 : Gm ((List Str))) : CFun := updC (updC (bindC Γ) 80 brokerref01_Has_out γ80) 82 brokerref01_Levels_out γ82
theorem T79 (Γ : Fun) (γ80 : Gm (Bool)) (γ82 : Gm ((List Str))) (Λ2 J : Lam) (p0 : Str) : bodyC SE (C79 Γ γ80 γ82) Λ2 J 79 [.d (.str p0)] [] [] =
  cond (decide ((List.length p0 : Int) ≥ 1)) (
   cond (decide ((List.length p0 : Int) ≤ 64)) (
    γ80 [.d (.str p0), .d (.int .u8 0)] [] [] fun r0 =>
    cond (!r0) (
     γ82 [.d (.str p0)] [] [] fun r1 =>
     (some (.ret [.d (.bool (decide ((List.length (List.map encS r1) : Int) ≤ 8)))] [] []))) (
    (some (.ret [.d (.bool false)] [] [])))) (
   (some (.ret [.d (.bool false)] [] [])))) (
  (some (.ret [.d (.bool false)] [] []))) := by kernel_rfl
abbrev X79 : CFun := C79 (callG SE good) (callT SE good 80 brokerref01_Has_out) (callT SE good 82 brokerref01_Levels_out)
theorem Cr79 : C79 (callG SE good) (callT SE good 80 brokerref01_Has_out) (callT SE good 82 brokerref01_Levels_out) = bindC (callG SE good) := by unfold C79; rw [updC_real (fun _ h => h), updC_real (fun _ h => h)]
theorem brokerref01_sized_ok (p0 : Str) : Le (Option.map brokerref01_sized_out (brokerref01_sized p0)) (callW SE 79 [.d (.str p0)] [] []) := by
  refine le_bodyC Cr79 ?_
  refine Le.trans ?_ (le_of_eq (T79 _ _ _ _ _  p0).symm)
  unfold brokerref01_sized
  refine le_cond rfl (fun _ => ?_) (fun _ => ?_)
  · skip
    refine le_cond rfl (fun _ => ?_) (fun _ => ?_)
    · skip
      refine le_call (good := good) (fun y => ⟨y, rfl⟩) brokerref01_Has_inj (brokerref01_Has_ok p0 0) (fun r0 _ => ?_)
      refine le_cond rfl (fun _ => ?_) (fun _ => ?_)
      · skip
        refine le_call (good := good) (fun y => ⟨y, rfl⟩) brokerref01_Levels_inj (brokerref01_Levels_ok p0) (fun r1 _ => ?_)
        exact le_ret (by first | rfl | (simp only [EN, brokerref01_sized_out]; done) | (simp only [EN, brokerref01_sized_out]; rfl))
      · skip
        exact le_ret (by first | rfl | (simp only [EN, brokerref01_sized_out]; done) | (simp only [EN, brokerref01_sized_out]; rfl))
    · skip
      exact le_ret (by first | rfl | (simp only [EN, brokerref01_sized_out]; done) | (simp only [EN, brokerref01_sized_out]; rfl))
  · skip
    exact le_ret (by first | rfl | (simp only [EN, brokerref01_sized_out]; done) | (simp only [EN, brokerref01_sized_out]; rfl))
def C68 (Γ : Fun) (γ79 : Gm (Bool)) (γ80 : Gm (Bool)) : CFun := updC (updC (bindC Γ) 79 brokerref01_sized_out γ79) 80 brokerref01_Has_out γ80
theorem T68 (Γ : Fun) (γ79 : Gm (Bool)) (γ80 : Gm (Bool)) (Λ2 J : Lam) (p0 : Str) : bodyC SE (C68 Γ γ79 γ80) Λ2 J 68 [.d (.str p0)] [] [] =
  γ79 [.d (.str p0)] [] [] fun r0 =>
  cond r0 (
   γ80 [.d (.str p0), .d (.int .u8 43)] [] [] fun r1 =>
   cond (!r1) (
    γ80 [.d (.str p0), .d (.int .u8 35)] [] [] fun r2 =>
    (some (.ret [.d (.bool (!r2))] [] []))) (
   (some (.ret [.d (.bool false)] [] [])))) (
  (some (.ret [.d (.bool false)] [] []))) := by kernel_rfl
abbrev X68 : CFun := C68 (callG SE good) (callT SE good 79 brokerref01_sized_out) (callT SE good 80 brokerref01_Has_out)
theorem Cr68 : C68 (callG SE good) (callT SE good 79 brokerref01_sized_out) (callT SE good 80 brokerref01_Has_out) = bindC (callG SE good) := by unfold C68; rw [updC_real (fun _ h => h), updC_real (fun _ h => h)]
theorem brokerref01_Valid_ok (p0 : Str) : Le (Option.map brokerref01_Valid_out (brokerref01_Valid p0)) (callW SE 68 [.d (.str p0)] [] []) := by
  refine le_bodyC Cr68 ?_
  refine Le.trans ?_ (le_of_eq (T68 _ _ _ _ _  p0).symm)
  unfold brokerref01_Valid
  refine le_call (good := good) (fun y => ⟨y, rfl⟩) brokerref01_sized_inj (brokerref01_sized_ok p0) (fun r0 _ => ?_)
  refine le_cond rfl (fun _ => ?_) (fun _ => ?_)
  · skip
    refine le_call (good := good) (fun y => ⟨y, rfl⟩) brokerref01_Has_inj (brokerref01_Has_ok p0 43) (fun r1 _ => ?_)
    refine le_cond rfl (fun _ => ?_) (fun _ => ?_)
    · skip
      refine le_call (good := good) (fun y => ⟨y, rfl⟩) brokerref01_Has_inj (brokerref01_Has_ok p0 35) (fun r2 _ => ?_)
      exact le_ret (by first | rfl | (simp only [EN, brokerref01_Valid_out]; done) | (simp only [EN, brokerref01_Valid_out]; rfl))
    · skip
      exact le_ret (by first | rfl | (simp only [EN, brokerref01_Valid_out]; done) | (simp only [EN, brokerref01_Valid_out]; rfl))
  · skip
    exact le_ret (by first | rfl | (simp only [EN, brokerref01_Valid_out]; done) | (simp only [EN, brokerref01_Valid_out]; rfl))
def C81 (Γ : Fun)  : CFun := bindC Γ
def R81_4 (C : CFun) (Λ2 J : Lam) (a0 : Str) (a1 : Int) : Res := lab SE C Λ2 J 81 0 [1, 1, 0, 1, 0] (stoOf [(0, .d (.str a0)), (3, .d (.int .i64 a1))] [] [] [] [])
def R81_3 (C : CFun) (Λ2 J : Lam) (a0 : Str) : Res := lab SE C Λ2 J 81 0 [1, 1, 0, 0] (stoOf [(0, .d (.str a0))] [] [] [] [])
theorem T81 (Γ : Fun)  (Λ2 J : Lam) (p0 : Str) : bodyC SE (C81 Γ) Λ2 J 81 [.d (.str p0)] [] [] =
  cond (decide ((List.length p0 : Int) < 1)) (
   (some (.ret [.d (.bool false)] [] []))) (
  cond (decide ((List.length p0 : Int) > 16)) (
   (some (.ret [.d (.bool false)] [] []))) (
  R81_3 (C81 Γ) Λ2 J p0)) := by kernel_rfl
theorem T81_4 (Γ : Fun)  (Λ2 J : Lam) (x0 : Str) (x3 : Int) : labU SE (C81 Γ) Λ2 J 81 0 [1, 1, 0, 1, 0] (stoOf [(0, .d (.str x0)), (3, .d (.int .i64 x3))] [] [] [] []) =
  cond (decide (x3 < (List.length x0 : Int))) (
   cond (decide (0 ≤ x3) && decide (x3 < (List.length x0 : Int))) (
    cond (decide ((UInt8.toNat (List.getD x0 (Int.toNat x3) 0) : Int) ≥ 97)) (
     cond (!(decide ((UInt8.toNat (List.getD x0 (Int.toNat x3) 0) : Int) ≤ 122))) (
      cond (decide ((UInt8.toNat (List.getD x0 (Int.toNat x3) 0) : Int) ≥ 48)) (
       cond (!(decide ((UInt8.toNat (List.getD x0 (Int.toNat x3) 0) : Int) ≤ 57))) (
        cond ((UInt8.toNat (List.getD x0 (Int.toNat x3) 0) : Int) != 45) (
         (some (.ret [.d (.bool false)] [] []))) (
        R81_4 (C81 Γ) Λ2 J x0 (IntKind.wrap .i64 (x3 + 1)))) (
       R81_4 (C81 Γ) Λ2 J x0 (IntKind.wrap .i64 (x3 + 1)))) (
      cond ((UInt8.toNat (List.getD x0 (Int.toNat x3) 0) : Int) != 45) (
       (some (.ret [.d (.bool false)] [] []))) (
      R81_4 (C81 Γ) Λ2 J x0 (IntKind.wrap .i64 (x3 + 1))))) (
     R81_4 (C81 Γ) Λ2 J x0 (IntKind.wrap .i64 (x3 + 1)))) (
    cond (decide ((UInt8.toNat (List.getD x0 (Int.toNat x3) 0) : Int) ≥ 48)) (
     cond (!(decide ((UInt8.toNat (List.getD x0 (Int.toNat x3) 0) : Int) ≤ 57))) (
      cond ((UInt8.toNat (List.getD x0 (Int.toNat x3) 0) : Int) != 45) (
       (some (.ret [.d (.bool false)] [] []))) (
      R81_4 (C81 Γ) Λ2 J x0 (IntKind.wrap .i64 (x3 + 1)))) (
     R81_4 (C81 Γ) Λ2 J x0 (IntKind.wrap .i64 (x3 + 1)))) (
    cond ((UInt8.toNat (List.getD x0 (Int.toNat x3) 0) : Int) != 45) (
     (some (.ret [.d (.bool false)] [] []))) (
    R81_4 (C81 Γ) Λ2 J x0 (IntKind.wrap .i64 (x3 + 1)))))) none) (
  (some (.ret [.d (.bool true)] [] []))) := by kernel_rfl
theorem T81_3 (Γ : Fun)  (Λ2 J : Lam) (x0 : Str) : labU SE (C81 Γ) Λ2 J 81 0 [1, 1, 0, 0] (stoOf [(0, .d (.str x0))] [] [] [] []) =
  R81_4 (C81 Γ) Λ2 J x0 0 := by kernel_rfl
abbrev X81 : CFun := C81 (callG SE good)
theorem Cr81 : C81 (callG SE good) = bindC (callG SE good) := by unfold C81; rfl
noncomputable abbrev Q81_4 (a0 : Str) (a1 : Int) : Res := R81_4 X81 (lam2 SE (callG SE good) (SE.hl 81) (SE.hr 81)) (J0 SE X81) a0 a1
noncomputable abbrev Q81_3 (a0 : Str) : Res := R81_3 X81 (lam2 SE (callG SE good) (SE.hl 81) (SE.hr 81)) (J0 SE X81) a0
theorem brokerref05_Key_l4_ok : ∀ (fu : Nat) (x0 : Str) (x3 : Int), Le (Option.map brokerref05_Key_out (brokerref05_Key_l4 fu x0 x3)) (Q81_4 x0 x3) := by
  intro fu
  induction fu with
  | zero => intros; exact le_none
  | succ fu ih =>
    intro x0 x3
    refine Le.trans ?_ (le_of_eq ((lab_realC Cr81).trans (T81_4 _ _ _  x0 x3)).symm)
    unfold brokerref05_Key_l4
    refine le_cond rfl (fun _ => ?_) (fun _ => ?_)
    · skip
      refine le_cond rfl (fun _ => ?_) (fun _ => le_none)
      refine le_cond rfl (fun _ => ?_) (fun _ => ?_)
      · skip
        refine le_cond rfl (fun _ => ?_) (fun _ => ?_)
        · skip
          refine le_cond rfl (fun _ => ?_) (fun _ => ?_)
          · skip
            refine le_cond rfl (fun _ => ?_) (fun _ => ?_)
            · skip
              refine le_cond rfl (fun _ => ?_) (fun _ => ?_)
              · skip
                exact le_ret (by first | rfl | (simp only [EN, brokerref05_Key_out]; done) | (simp only [EN, brokerref05_Key_out]; rfl))
              · skip
                exact ih x0 (IntKind.wrap .i64 (x3 + 1))
            · skip
              exact ih x0 (IntKind.wrap .i64 (x3 + 1))
          · skip
            refine le_cond rfl (fun _ => ?_) (fun _ => ?_)
            · skip
              exact le_ret (by first | rfl | (simp only [EN, brokerref05_Key_out]; done) | (simp only [EN, brokerref05_Key_out]; rfl))
            · skip
              exact ih x0 (IntKind.wrap .i64 (x3 + 1))
        · skip
          exact ih x0 (IntKind.wrap .i64 (x3 + 1))
      · skip
        refine le_cond rfl (fun _ => ?_) (fun _ => ?_)
        · skip
          refine le_cond rfl (fun _ => ?_) (fun _ => ?_)
          · skip
            refine le_cond rfl (fun _ => ?_) (fun _ => ?_)
            · skip
              exact le_ret (by first | rfl | (simp only [EN, brokerref05_Key_out]; done) | (simp only [EN, brokerref05_Key_out]; rfl))
            · skip
              exact ih x0 (IntKind.wrap .i64 (x3 + 1))
          · skip
            exact ih x0 (IntKind.wrap .i64 (x3 + 1))
        · skip
          refine le_cond rfl (fun _ => ?_) (fun _ => ?_)
          · skip
            exact le_ret (by first | rfl | (simp only [EN, brokerref05_Key_out]; done) | (simp only [EN, brokerref05_Key_out]; rfl))
          · skip
            exact ih x0 (IntKind.wrap .i64 (x3 + 1))
    · skip
      exact le_ret (by first | rfl | (simp only [EN, brokerref05_Key_out]; done) | (simp only [EN, brokerref05_Key_out]; rfl))
theorem brokerref05_Key_j3_ok (x0 : Str) : Le (Option.map brokerref05_Key_out (brokerref05_Key_j3 x0)) (Q81_3 x0) := by
  refine Le.trans ?_ (le_of_eq ((lab_realC Cr81).trans (T81_3 _ _ _  x0)).symm)
  unfold brokerref05_Key_j3
  exact brokerref05_Key_l4_ok fuel x0 0
theorem brokerref05_Key_ok (p0 : Str) : Le (Option.map brokerref05_Key_out (brokerref05_Key p0)) (callW SE 81 [.d (.str p0)] [] []) := by
  refine le_bodyC Cr81 ?_
  refine Le.trans ?_ (le_of_eq (T81 _ _ _  p0).symm)
  unfold brokerref05_Key
  refine le_cond rfl (fun _ => ?_) (fun _ => ?_)
  · skip
    exact le_ret (by first | rfl | (simp only [EN, brokerref05_Key_out]; done) | (simp only [EN, brokerref05_Key_out]; rfl))
  · skip
    refine le_cond rfl (fun _ => ?_) (fun _ => ?_)
    · skip
      exact le_ret (by first | rfl | (simp only [EN, brokerref05_Key_out]; done) | (simp only [EN, brokerref05_Key_out]; rfl))
    · skip
      exact brokerref05_Key_j3_ok p0
def C69 (Γ : Fun) (γ81 : Gm (Bool)) : CFun := updC (bindC Γ) 81 brokerref05_Key_out γ81
def R69_4 (C : CFun) (Λ2 J : Lam) (a0 : (List (List D))) (a1 : Int) : Res := lab SE C Λ2 J 69 0 [1, 1, 0, 1, 0] (stoOf [(0, .d (.sl api_Prop.ks a0)), (3, .d (.int .i64 a1))] [] [] [] [])
theorem T69 (Γ : Fun) (γ81 : Gm (Bool)) (Λ2 J : Lam) (p0 : (List api_Prop)) : bodyC SE (C69 Γ γ81) Λ2 J 69 [.d (.sl api_Prop.ks (List.map api_Prop.enc p0))] [] [] =
  cond (decide ((List.length (List.map api_Prop.enc p0) : Int) > 8)) (
   (some (.ret [.d (.int .i64 5)] [] []))) (
  R69_4 (C69 Γ γ81) Λ2 J (List.map api_Prop.enc p0) 0) := by kernel_rfl
theorem T69_4 (Γ : Fun) (γ81 : Gm (Bool)) (Λ2 J : Lam) (x0 : (List api_Prop)) (x3 : Int) : labU SE (C69 Γ γ81) Λ2 J 69 0 [1, 1, 0, 1, 0] (stoOf [(0, .d (.sl api_Prop.ks (List.map api_Prop.enc x0))), (3, .d (.int .i64 x3))] [] [] [] []) =
  cond (decide (x3 < (List.length (List.map api_Prop.enc x0) : Int))) (
   cond (decide (0 ≤ x3) && decide (x3 < (List.length (List.map api_Prop.enc x0) : Int))) (
    γ81 [.d (.str (dStr (cellAt (elemAt (List.map api_Prop.enc x0) (Int.toNat x3)) 0)))] [] [] fun r0 =>
    cond (!r0) (
     (some (.ret [.d (.int .i64 16)] [] []))) (
    cond (decide (0 ≤ x3) && decide (x3 < (List.length (List.map api_Prop.enc x0) : Int))) (
     cond (decide ((List.length (dStr (cellAt (elemAt (List.map api_Prop.enc x0) (Int.toNat x3)) 1)) : Int) > 160)) (
      (some (.ret [.d (.int .i64 5)] [] []))) (
     cond (decide (x3 > 0)) (
      cond (decide (0 ≤ x3) && decide (x3 < (List.length (List.map api_Prop.enc x0) : Int))) (
       cond (decide (0 ≤ (IntKind.wrap .i64 (x3 - 1))) && decide ((IntKind.wrap .i64 (x3 - 1)) < (List.length (List.map api_Prop.enc x0) : Int))) (
        cond (Op.bytesLess (dStr (cellAt (elemAt (List.map api_Prop.enc x0) (Int.toNat x3)) 0)) (dStr (cellAt (elemAt (List.map api_Prop.enc x0) (Int.toNat (IntKind.wrap .i64 (x3 - 1)))) 0)) || (dStr (cellAt (elemAt (List.map api_Prop.enc x0) (Int.toNat x3)) 0)) == (dStr (cellAt (elemAt (List.map api_Prop.enc x0) (Int.toNat (IntKind.wrap .i64 (x3 - 1)))) 0))) (
         (some (.ret [.d (.int .i64 16)] [] []))) (
        R69_4 (C69 Γ γ81) Λ2 J (List.map api_Prop.enc x0) (IntKind.wrap .i64 (x3 + 1)))) none) none) (
     R69_4 (C69 Γ γ81) Λ2 J (List.map api_Prop.enc x0) (IntKind.wrap .i64 (x3 + 1))))) none)) none) (
  (some (.ret [.d (.int .i64 0)] [] []))) := by kernel_rfl
abbrev X69 : CFun := C69 (callG SE good) (callT SE good 81 brokerref05_Key_out)
theorem Cr69 : C69 (callG SE good) (callT SE good 81 brokerref05_Key_out) = bindC (callG SE good) := by unfold C69; rw [updC_real (fun _ h => h)]
noncomputable abbrev Q69_4 (a0 : (List (List D))) (a1 : Int) : Res := R69_4 X69 (lam2 SE (callG SE good) (SE.hl 69) (SE.hr 69)) (J0 SE X69) a0 a1
theorem brokerref05_Props_l4_ok : ∀ (fu : Nat) (x0 : (List api_Prop)) (x3 : Int), Le (Option.map brokerref05_Props_out (brokerref05_Props_l4 fu x0 x3)) (Q69_4 (List.map api_Prop.enc x0) x3) := by
  intro fu
  induction fu with
  | zero => intros; exact le_none
  | succ fu ih =>
    intro x0 x3
    refine Le.trans ?_ (le_of_eq ((lab_realC Cr69).trans (T69_4 _ _ _ _  x0 x3)).symm)
    unfold brokerref05_Props_l4
    refine le_cond (by simp only [EN]) (fun _ => ?_) (fun _ => ?_)
    · skip
      refine le_cond (by simp only [EN]) (fun _ => ?_) (fun _ => le_none)
      refine le_call (good := good) (fun y => ⟨y, rfl⟩) brokerref05_Key_inj (by first | (simp only [EN]; exact brokerref05_Key_ok ((List.getD x0 (Int.toNat x3) default).Key)) | exact brokerref05_Key_ok ((List.getD x0 (Int.toNat x3) default).Key)) (fun r0 _ => ?_)
      refine le_cond rfl (fun _ => ?_) (fun _ => ?_)
      · skip
        exact le_ret (by first | rfl | (simp only [EN, brokerref05_Props_out]; done) | (simp only [EN, brokerref05_Props_out]; rfl))
      · skip
        refine le_cond (by simp only [EN]) (fun _ => ?_) (fun _ => le_none)
        refine le_cond (by simp only [EN]) (fun _ => ?_) (fun _ => ?_)
        · skip
          exact le_ret (by first | rfl | (simp only [EN, brokerref05_Props_out]; done) | (simp only [EN, brokerref05_Props_out]; rfl))
        · skip
          refine le_cond rfl (fun _ => ?_) (fun _ => ?_)
          · skip
            refine le_cond (by simp only [EN]) (fun _ => ?_) (fun _ => le_none)
            refine le_cond (by simp only [EN]) (fun _ => ?_) (fun _ => le_none)
            refine le_cond (by simp only [EN]) (fun _ => ?_) (fun _ => ?_)
            · skip
              exact le_ret (by first | rfl | (simp only [EN, brokerref05_Props_out]; done) | (simp only [EN, brokerref05_Props_out]; rfl))
            · skip
              exact ih x0 (IntKind.wrap .i64 (x3 + 1))
          · skip
            exact ih x0 (IntKind.wrap .i64 (x3 + 1))
    · skip
      exact le_ret (by first | rfl | (simp only [EN, brokerref05_Props_out]; done) | (simp only [EN, brokerref05_Props_out]; rfl))
theorem brokerref05_Props_ok (p0 : (List api_Prop)) : Le (Option.map brokerref05_Props_out (brokerref05_Props p0)) (callW SE 69 [.d (.sl api_Prop.ks (List.map api_Prop.enc p0))] [] []) := by
  refine le_bodyC Cr69 ?_
  refine Le.trans ?_ (le_of_eq (T69 _ _ _ _  p0).symm)
  unfold brokerref05_Props
  refine le_cond (by simp only [EN]) (fun _ => ?_) (fun _ => ?_)
  · skip
    exact le_ret (by first | rfl | (simp only [EN, brokerref05_Props_out]; done) | (simp only [EN, brokerref05_Props_out]; rfl))
  · skip
    exact brokerref05_Props_l4_ok fuel p0 0
def C56 (Γ : Fun) (γ68 : Gm (Bool)) (γ24 : Gm (Bool)) (γ69 : Gm (Int)) : CFun := updC (updC (updC (bindC Γ) 68 brokerref01_Valid_out γ68) 24 brokerref01_Name_out γ24) 69 brokerref05_Props_out γ69
def R56_11 (C : CFun) (Λ2 J : Lam) (a0 : (List D)) : Res := lab SE C Λ2 J 56 0 [1, 1, 1, 1, 1, 1, 0, 0] (stoOf [(1, .ptr 1000000000 0)] [⟨32, (List.map AV.d a0)⟩] [] [] [])
def R56_9 (C : CFun) (Λ2 J : Lam) (a0 : (List D)) : Res := lab SE C Λ2 J 56 0 [1, 1, 1, 1, 1, 0, 0] (stoOf [(1, .ptr 1000000000 0)] [⟨32, (List.map AV.d a0)⟩] [] [] [])
def R56_7 (C : CFun) (Λ2 J : Lam) (a0 : (List D)) : Res := lab SE C Λ2 J 56 0 [1, 1, 1, 1, 0, 0] (stoOf [(1, .ptr 1000000000 0)] [⟨32, (List.map AV.d a0)⟩] [] [] [])
theorem T56 (Γ : Fun) (γ68 : Gm (Bool)) (γ24 : Gm (Bool)) (γ69 : Gm (Int)) (Λ2 J : Lam) (p0 : api_Message) : bodyC SE (C56 Γ γ68 γ24 γ69) Λ2 J 56 [api_Message.av p0] [] [] =
  γ68 [.d (.str p0.Topic)] [] [] fun r0 =>
  cond (!r0) (
   (some (.ret [.d (.int .i64 12)] [] []))) (
  cond (decide ((List.length p0.Payload : Int) > 256)) (
   (some (.ret [.d (.int .i64 5)] [] []))) (
  cond (decide (p0.Level < 0)) (
   (some (.ret [.d (.int .i64 14)] [] []))) (
  cond (decide (p0.Level > 2)) (
   (some (.ret [.d (.int .i64 14)] [] []))) (
  R56_7 (C56 Γ γ68 γ24 γ69) Λ2 J (api_Message.enc p0))))) := by kernel_rfl
theorem T56_11 (Γ : Fun) (γ68 : Gm (Bool)) (γ24 : Gm (Bool)) (γ69 : Gm (Int)) (Λ2 J : Lam) (b0 : api_Message) : labU SE (C56 Γ γ68 γ24 γ69) Λ2 J 56 0 [1, 1, 1, 1, 1, 1, 0, 0] (stoOf [(1, .ptr 1000000000 0)] [⟨32, (List.map AV.d (api_Message.enc b0))⟩] [] [] []) =
  cond (decide (b0.Seq < 0)) (
   (some (.ret [.d (.int .i64 1)] [] []))) (
  cond (decide (b0.Seq > 1099511627776)) (
   (some (.ret [.d (.int .i64 1)] [] []))) (
  γ69 [.d (.sl api_Prop.ks (List.map api_Prop.enc b0.Props))] [] [] fun r2 =>
  (some (.ret [.d (.int .i64 r2)] [] [])))) := by kernel_rfl
theorem T56_9 (Γ : Fun) (γ68 : Gm (Bool)) (γ24 : Gm (Bool)) (γ69 : Gm (Int)) (Λ2 J : Lam) (b0 : api_Message) : labU SE (C56 Γ γ68 γ24 γ69) Λ2 J 56 0 [1, 1, 1, 1, 1, 0, 0] (stoOf [(1, .ptr 1000000000 0)] [⟨32, (List.map AV.d (api_Message.enc b0))⟩] [] [] []) =
  cond (!(b0.From == ([] : Str))) (
   γ24 [.d (.str b0.From)] [] [] fun r1 =>
   cond (!r1) (
    (some (.ret [.d (.int .i64 11)] [] []))) (
   R56_11 (C56 Γ γ68 γ24 γ69) Λ2 J (api_Message.enc b0))) (
  R56_11 (C56 Γ γ68 γ24 γ69) Λ2 J (api_Message.enc b0)) := by kernel_rfl
theorem T56_7 (Γ : Fun) (γ68 : Gm (Bool)) (γ24 : Gm (Bool)) (γ69 : Gm (Int)) (Λ2 J : Lam) (b0 : api_Message) : labU SE (C56 Γ γ68 γ24 γ69) Λ2 J 56 0 [1, 1, 1, 1, 0, 0] (stoOf [(1, .ptr 1000000000 0)] [⟨32, (List.map AV.d (api_Message.enc b0))⟩] [] [] []) =
  cond (decide (b0.Priority < 0)) (
   (some (.ret [.d (.int .i64 1)] [] []))) (
  cond (decide (b0.Priority > 9)) (
   (some (.ret [.d (.int .i64 1)] [] []))) (
  cond (decide (b0.Expires < 0)) (
   (some (.ret [.d (.int .i64 1)] [] []))) (
  cond (decide (b0.Expires > 1099511627776)) (
   (some (.ret [.d (.int .i64 1)] [] []))) (
  R56_9 (C56 Γ γ68 γ24 γ69) Λ2 J (api_Message.enc b0))))) := by kernel_rfl
abbrev X56 : CFun := C56 (callG SE good) (callT SE good 68 brokerref01_Valid_out) (callT SE good 24 brokerref01_Name_out) (callT SE good 69 brokerref05_Props_out)
theorem Cr56 : C56 (callG SE good) (callT SE good 68 brokerref01_Valid_out) (callT SE good 24 brokerref01_Name_out) (callT SE good 69 brokerref05_Props_out) = bindC (callG SE good) := by unfold C56; rw [updC_real (fun _ h => h), updC_real (fun _ h => h), updC_real (fun _ h => h)]
noncomputable abbrev Q56_11 (a0 : (List D)) : Res := R56_11 X56 (lam2 SE (callG SE good) (SE.hl 56) (SE.hr 56)) (J0 SE X56) a0
noncomputable abbrev Q56_9 (a0 : (List D)) : Res := R56_9 X56 (lam2 SE (callG SE good) (SE.hl 56) (SE.hr 56)) (J0 SE X56) a0
noncomputable abbrev Q56_7 (a0 : (List D)) : Res := R56_7 X56 (lam2 SE (callG SE good) (SE.hl 56) (SE.hr 56)) (J0 SE X56) a0
theorem brokerref05_Check_j11_ok (b0 : api_Message) : Le (Option.map brokerref05_Check_out (brokerref05_Check_j11 b0)) (Q56_11 (api_Message.enc b0)) := by
  refine Le.trans ?_ (le_of_eq ((lab_realC Cr56).trans (T56_11 _ _ _ _ _ _  b0)).symm)
  unfold brokerref05_Check_j11
  refine le_cond rfl (fun _ => ?_) (fun _ => ?_)
  · skip
    exact le_ret (by first | rfl | (simp only [EN, brokerref05_Check_out]; done) | (simp only [EN, brokerref05_Check_out]; rfl))
  · skip
    refine le_cond rfl (fun _ => ?_) (fun _ => ?_)
    · skip
      exact le_ret (by first | rfl | (simp only [EN, brokerref05_Check_out]; done) | (simp only [EN, brokerref05_Check_out]; rfl))
    · skip
      refine le_call (good := good) (fun y => ⟨y, rfl⟩) brokerref05_Props_inj (brokerref05_Props_ok b0.Props) (fun r2 _ => ?_)
      exact le_ret (by first | rfl | (simp only [EN, brokerref05_Check_out]; done) | (simp only [EN, brokerref05_Check_out]; rfl))
theorem brokerref05_Check_j9_ok (b0 : api_Message) : Le (Option.map brokerref05_Check_out (brokerref05_Check_j9 b0)) (Q56_9 (api_Message.enc b0)) := by
  refine Le.trans ?_ (le_of_eq ((lab_realC Cr56).trans (T56_9 _ _ _ _ _ _  b0)).symm)
  unfold brokerref05_Check_j9
  refine le_cond rfl (fun _ => ?_) (fun _ => ?_)
  · skip
    refine le_call (good := good) (fun y => ⟨y, rfl⟩) brokerref01_Name_inj (brokerref01_Name_ok b0.From) (fun r1 _ => ?_)
    refine le_cond rfl (fun _ => ?_) (fun _ => ?_)
    · skip
      exact le_ret (by first | rfl | (simp only [EN, brokerref05_Check_out]; done) | (simp only [EN, brokerref05_Check_out]; rfl))
    · skip
      exact brokerref05_Check_j11_ok b0
  · skip
    exact brokerref05_Check_j11_ok b0
theorem brokerref05_Check_j7_ok (b0 : api_Message) : Le (Option.map brokerref05_Check_out (brokerref05_Check_j7 b0)) (Q56_7 (api_Message.enc b0)) := by
  refine Le.trans ?_ (le_of_eq ((lab_realC Cr56).trans (T56_7 _ _ _ _ _ _  b0)).symm)
  unfold brokerref05_Check_j7
  refine le_cond rfl (fun _ => ?_) (fun _ => ?_)
  · skip
    exact le_ret (by first | rfl | (simp only [EN, brokerref05_Check_out]; done) | (simp only [EN, brokerref05_Check_out]; rfl))
  · skip
    refine le_cond rfl (fun _ => ?_) (fun _ => ?_)
    · skip
      exact le_ret (by first | rfl | (simp only [EN, brokerref05_Check_out]; done) | (simp only [EN, brokerref05_Check_out]; rfl))
    · skip
      refine le_cond rfl (fun _ => ?_) (fun _ => ?_)
      · skip
        exact le_ret (by first | rfl | (simp only [EN, brokerref05_Check_out]; done) | (simp only [EN, brokerref05_Check_out]; rfl))
      · skip
        refine le_cond rfl (fun _ => ?_) (fun _ => ?_)
        · skip
          exact le_ret (by first | rfl | (simp only [EN, brokerref05_Check_out]; done) | (simp only [EN, brokerref05_Check_out]; rfl))
        · skip
          exact brokerref05_Check_j9_ok b0
theorem brokerref05_Check_ok (p0 : api_Message) : Le (Option.map brokerref05_Check_out (brokerref05_Check p0)) (callW SE 56 [api_Message.av p0] [] []) := by
  refine le_bodyC Cr56 ?_
  refine Le.trans ?_ (le_of_eq (T56 _ _ _ _ _ _  p0).symm)
  unfold brokerref05_Check
  refine le_call (good := good) (fun y => ⟨y, rfl⟩) brokerref01_Valid_inj (brokerref01_Valid_ok p0.Topic) (fun r0 _ => ?_)
  refine le_cond rfl (fun _ => ?_) (fun _ => ?_)
  · skip
    exact le_ret (by first | rfl | (simp only [EN, brokerref05_Check_out]; done) | (simp only [EN, brokerref05_Check_out]; rfl))
  · skip
    refine le_cond rfl (fun _ => ?_) (fun _ => ?_)
    · skip
      exact le_ret (by first | rfl | (simp only [EN, brokerref05_Check_out]; done) | (simp only [EN, brokerref05_Check_out]; rfl))
    · skip
      refine le_cond rfl (fun _ => ?_) (fun _ => ?_)
      · skip
        exact le_ret (by first | rfl | (simp only [EN, brokerref05_Check_out]; done) | (simp only [EN, brokerref05_Check_out]; rfl))
      · skip
        refine le_cond rfl (fun _ => ?_) (fun _ => ?_)
        · skip
          exact le_ret (by first | rfl | (simp only [EN, brokerref05_Check_out]; done) | (simp only [EN, brokerref05_Check_out]; rfl))
        · skip
          exact brokerref05_Check_j7_ok p0
def C55 (Γ : Fun) (γ50 : Gm (Bool)) (γ56 : Gm (Int)) : CFun := updC (updC (bindC Γ) 50 brokerref05_Same_out γ50) 56 brokerref05_Check_out γ56
theorem T55 (Γ : Fun) (γ50 : Gm (Bool)) (γ56 : Gm (Int)) (Λ2 J : Lam) (p0 : api_Will) : bodyC SE (C55 Γ γ50 γ56) Λ2 J 55 [api_Will.av p0] [] [] =
  cond (!p0.Set) (
   cond (p0.Delay != 0) (
    (some (.ret [.d (.int .i64 28)] [] []))) (
   γ50 [api_Message.av p0.Message, .agg [.d (.str ([] : Str)), .d (.str ([] : Str)), .d (.int .i64 0), .d (.bool false), .d (.int .i64 0), .d (.int .i64 0), .d (.str ([] : Str)), .d (.int .i64 0), .d (.sl api_Prop.ks (List.map api_Prop.enc []))]] [] [] fun r0 =>
   cond (!r0) (
    (some (.ret [.d (.int .i64 28)] [] []))) (
   (some (.ret [.d (.int .i64 0)] [] []))))) (
  cond (decide (p0.Delay < 0)) (
   (some (.ret [.d (.int .i64 1)] [] []))) (
  cond (decide (p0.Delay > 1099511627776)) (
   (some (.ret [.d (.int .i64 1)] [] []))) (
  γ56 [api_Message.av p0.Message] [] [] fun r1 =>
  (some (.ret [.d (.int .i64 r1)] [] []))))) := by kernel_rfl
abbrev X55 : CFun := C55 (callG SE good) (callT SE good 50 brokerref05_Same_out) (callT SE good 56 brokerref05_Check_out)
theorem Cr55 : C55 (callG SE good) (callT SE good 50 brokerref05_Same_out) (callT SE good 56 brokerref05_Check_out) = bindC (callG SE good) := by unfold C55; rw [updC_real (fun _ h => h), updC_real (fun _ h => h)]
theorem brokerref06_Will_ok (p0 : api_Will) : Le (Option.map brokerref06_Will_out (brokerref06_Will p0)) (callW SE 55 [api_Will.av p0] [] []) := by
  refine le_bodyC Cr55 ?_
  refine Le.trans ?_ (le_of_eq (T55 _ _ _ _ _  p0).symm)
  unfold brokerref06_Will
  refine le_cond rfl (fun _ => ?_) (fun _ => ?_)
  · skip
    refine le_cond rfl (fun _ => ?_) (fun _ => ?_)
    · skip
      exact le_ret (by first | rfl | (simp only [EN, brokerref06_Will_out]; done) | (simp only [EN, brokerref06_Will_out]; rfl))
    · skip
      refine le_call (good := good) (fun y => ⟨y, rfl⟩) brokerref05_Same_inj (by first | (simp only [EN]; exact brokerref05_Same_ok p0.Message ((api_Message.mk ([] : Str) ([] : Str) 0 false 0 0 ([] : Str) 0 ([] : List api_Prop)))) | exact brokerref05_Same_ok p0.Message ((api_Message.mk ([] : Str) ([] : Str) 0 false 0 0 ([] : Str) 0 ([] : List api_Prop)))) (fun r0 _ => ?_)
      refine le_cond rfl (fun _ => ?_) (fun _ => ?_)
      · skip
        exact le_ret (by first | rfl | (simp only [EN, brokerref06_Will_out]; done) | (simp only [EN, brokerref06_Will_out]; rfl))
      · skip
        exact le_ret (by first | rfl | (simp only [EN, brokerref06_Will_out]; done) | (simp only [EN, brokerref06_Will_out]; rfl))
  · skip
    refine le_cond rfl (fun _ => ?_) (fun _ => ?_)
    · skip
      exact le_ret (by first | rfl | (simp only [EN, brokerref06_Will_out]; done) | (simp only [EN, brokerref06_Will_out]; rfl))
    · skip
      refine le_cond rfl (fun _ => ?_) (fun _ => ?_)
      · skip
        exact le_ret (by first | rfl | (simp only [EN, brokerref06_Will_out]; done) | (simp only [EN, brokerref06_Will_out]; rfl))
      · skip
        refine le_call (good := good) (fun y => ⟨y, rfl⟩) brokerref05_Check_inj (brokerref05_Check_ok p0.Message) (fun r1 _ => ?_)
        exact le_ret (by first | rfl | (simp only [EN, brokerref06_Will_out]; done) | (simp only [EN, brokerref06_Will_out]; rfl))
def C29 (Γ : Fun) (γ24 : Gm (Bool)) (γ55 : Gm (Int)) : CFun := updC (updC (bindC Γ) 24 brokerref01_Name_out γ24) 55 brokerref06_Will_out γ55
def R29_3 (C : CFun) (Λ2 J : Lam) (a0 : (List D)) : Res := lab SE C Λ2 J 29 0 [1, 1, 0, 0] (stoOf [(1, .ptr 1000000000 0)] [⟨39, (List.map AV.d a0)⟩] [] [] [])
theorem T29 (Γ : Fun) (γ24 : Gm (Bool)) (γ55 : Gm (Int)) (Λ2 J : Lam) (p0 : api_Packet) : bodyC SE (C29 Γ γ24 γ55) Λ2 J 29 [api_Packet.av p0] [] [] =
  γ24 [.d (.str p0.Client)] [] [] fun r0 =>
  cond (!r0) (
   (some (.ret [.d (.int .i64 11)] [] []))) (
  cond (!(p0.User == ([] : Str))) (
   γ24 [.d (.str p0.User)] [] [] fun r1 =>
   cond (!r1) (
    (some (.ret [.d (.int .i64 11)] [] []))) (
   R29_3 (C29 Γ γ24 γ55) Λ2 J (api_Packet.enc p0))) (
  R29_3 (C29 Γ γ24 γ55) Λ2 J (api_Packet.enc p0))) := by kernel_rfl
theorem T29_3 (Γ : Fun) (γ24 : Gm (Bool)) (γ55 : Gm (Int)) (Λ2 J : Lam) (b0 : api_Packet) : labU SE (C29 Γ γ24 γ55) Λ2 J 29 0 [1, 1, 0, 0] (stoOf [(1, .ptr 1000000000 0)] [⟨39, (List.map AV.d (api_Packet.enc b0))⟩] [] [] []) =
  cond (decide (b0.Keep < 0)) (
   (some (.ret [.d (.int .i64 1)] [] []))) (
  cond (decide (b0.Keep > 1099511627776)) (
   (some (.ret [.d (.int .i64 1)] [] []))) (
  cond (decide (b0.Expiry < 0)) (
   (some (.ret [.d (.int .i64 1)] [] []))) (
  cond (decide (b0.Expiry > 1099511627776)) (
   (some (.ret [.d (.int .i64 1)] [] []))) (
  cond (decide (b0.Window < 1)) (
   (some (.ret [.d (.int .i64 1)] [] []))) (
  cond (decide (b0.Window > 32)) (
   (some (.ret [.d (.int .i64 1)] [] []))) (
  γ55 [api_Will.av b0.Will] [] [] fun r2 =>
  (some (.ret [.d (.int .i64 r2)] [] [])))))))) := by kernel_rfl
abbrev X29 : CFun := C29 (callG SE good) (callT SE good 24 brokerref01_Name_out) (callT SE good 55 brokerref06_Will_out)
theorem Cr29 : C29 (callG SE good) (callT SE good 24 brokerref01_Name_out) (callT SE good 55 brokerref06_Will_out) = bindC (callG SE good) := by unfold C29; rw [updC_real (fun _ h => h), updC_real (fun _ h => h)]
noncomputable abbrev Q29_3 (a0 : (List D)) : Res := R29_3 X29 (lam2 SE (callG SE good) (SE.hl 29) (SE.hr 29)) (J0 SE X29) a0
theorem brokerref06_connect_j3_ok (b0 : api_Packet) : Le (Option.map brokerref06_connect_out (brokerref06_connect_j3 b0)) (Q29_3 (api_Packet.enc b0)) := by
  refine Le.trans ?_ (le_of_eq ((lab_realC Cr29).trans (T29_3 _ _ _ _ _  b0)).symm)
  unfold brokerref06_connect_j3
  refine le_cond rfl (fun _ => ?_) (fun _ => ?_)
  · skip
    exact le_ret (by first | rfl | (simp only [EN, brokerref06_connect_out]; done) | (simp only [EN, brokerref06_connect_out]; rfl))
  · skip
    refine le_cond rfl (fun _ => ?_) (fun _ => ?_)
    · skip
      exact le_ret (by first | rfl | (simp only [EN, brokerref06_connect_out]; done) | (simp only [EN, brokerref06_connect_out]; rfl))
    · skip
      refine le_cond rfl (fun _ => ?_) (fun _ => ?_)
      · skip
        exact le_ret (by first | rfl | (simp only [EN, brokerref06_connect_out]; done) | (simp only [EN, brokerref06_connect_out]; rfl))
      · skip
        refine le_cond rfl (fun _ => ?_) (fun _ => ?_)
        · skip
          exact le_ret (by first | rfl | (simp only [EN, brokerref06_connect_out]; done) | (simp only [EN, brokerref06_connect_out]; rfl))
        · skip
          refine le_cond rfl (fun _ => ?_) (fun _ => ?_)
          · skip
            exact le_ret (by first | rfl | (simp only [EN, brokerref06_connect_out]; done) | (simp only [EN, brokerref06_connect_out]; rfl))
          · skip
            refine le_cond rfl (fun _ => ?_) (fun _ => ?_)
            · skip
              exact le_ret (by first | rfl | (simp only [EN, brokerref06_connect_out]; done) | (simp only [EN, brokerref06_connect_out]; rfl))
            · skip
              refine le_call (good := good) (fun y => ⟨y, rfl⟩) brokerref06_Will_inj (brokerref06_Will_ok b0.Will) (fun r2 _ => ?_)
              exact le_ret (by first | rfl | (simp only [EN, brokerref06_connect_out]; done) | (simp only [EN, brokerref06_connect_out]; rfl))
theorem brokerref06_connect_ok (p0 : api_Packet) : Le (Option.map brokerref06_connect_out (brokerref06_connect p0)) (callW SE 29 [api_Packet.av p0] [] []) := by
  refine le_bodyC Cr29 ?_
  refine Le.trans ?_ (le_of_eq (T29 _ _ _ _ _  p0).symm)
  unfold brokerref06_connect
  refine le_call (good := good) (fun y => ⟨y, rfl⟩) brokerref01_Name_inj (brokerref01_Name_ok p0.Client) (fun r0 _ => ?_)
  refine le_cond rfl (fun _ => ?_) (fun _ => ?_)
  · skip
    exact le_ret (by first | rfl | (simp only [EN, brokerref06_connect_out]; done) | (simp only [EN, brokerref06_connect_out]; rfl))
  · skip
    refine le_cond rfl (fun _ => ?_) (fun _ => ?_)
    · skip
      refine le_call (good := good) (fun y => ⟨y, rfl⟩) brokerref01_Name_inj (brokerref01_Name_ok p0.User) (fun r1 _ => ?_)
      refine le_cond rfl (fun _ => ?_) (fun _ => ?_)
      · skip
        exact le_ret (by first | rfl | (simp only [EN, brokerref06_connect_out]; done) | (simp only [EN, brokerref06_connect_out]; rfl))
      · skip
        exact brokerref06_connect_j3_ok p0
    · skip
      exact brokerref06_connect_j3_ok p0
def C32 (Γ : Fun)  : CFun := bindC Γ
theorem T32 (Γ : Fun)  (Λ2 J : Lam) (p0 : Int) : bodyC SE (C32 Γ) Λ2 J 32 [.d (.int .i64 p0)] [] [] =
  cond (decide (p0 < 1)) (
   (some (.ret [.d (.int .i64 15)] [] []))) (
  cond (decide (p0 > 65535)) (
   (some (.ret [.d (.int .i64 15)] [] []))) (
  (some (.ret [.d (.int .i64 0)] [] [])))) := by kernel_rfl
abbrev X32 : CFun := C32 (callG SE good)
theorem Cr32 : C32 (callG SE good) = bindC (callG SE good) := by unfold C32; rfl
theorem brokerref06_ident_ok (p0 : Int) : Le (Option.map brokerref06_ident_out (brokerref06_ident p0)) (callW SE 32 [.d (.int .i64 p0)] [] []) := by
  refine le_bodyC Cr32 ?_
  refine Le.trans ?_ (le_of_eq (T32 _ _ _  p0).symm)
  unfold brokerref06_ident
  refine le_cond rfl (fun _ => ?_) (fun _ => ?_)
  · skip
    exact le_ret (by first | rfl | (simp only [EN, brokerref06_ident_out]; done) | (simp only [EN, brokerref06_ident_out]; rfl))
  · skip
    refine le_cond rfl (fun _ => ?_) (fun _ => ?_)
    · skip
      exact le_ret (by first | rfl | (simp only [EN, brokerref06_ident_out]; done) | (simp only [EN, brokerref06_ident_out]; rfl))
    · skip
      exact le_ret (by first | rfl | (simp only [EN, brokerref06_ident_out]; done) | (simp only [EN, brokerref06_ident_out]; rfl))
def C30 (Γ : Fun) (γ56 : Gm (Int)) (γ32 : Gm (Int)) : CFun := updC (updC (bindC Γ) 56 brokerref05_Check_out γ56) 32 brokerref06_ident_out γ32
theorem T30 (Γ : Fun) (γ56 : Gm (Int)) (γ32 : Gm (Int)) (Λ2 J : Lam) (p0 : api_Packet) : bodyC SE (C30 Γ γ56 γ32) Λ2 J 30 [api_Packet.av p0] [] [] =
  γ56 [api_Message.av p0.Message] [] [] fun r0 =>
  cond (r0 != 0) (
   (some (.ret [.d (.int .i64 r0)] [] []))) (
  cond (p0.Message.Level == 0) (
   cond (p0.ID != 0) (
    (some (.ret [.d (.int .i64 15)] [] []))) (
   cond p0.Dup (
    (some (.ret [.d (.int .i64 28)] [] []))) (
   (some (.ret [.d (.int .i64 0)] [] []))))) (
  γ32 [.d (.int .i64 p0.ID)] [] [] fun r1 =>
  (some (.ret [.d (.int .i64 r1)] [] [])))) := by kernel_rfl
abbrev X30 : CFun := C30 (callG SE good) (callT SE good 56 brokerref05_Check_out) (callT SE good 32 brokerref06_ident_out)
theorem Cr30 : C30 (callG SE good) (callT SE good 56 brokerref05_Check_out) (callT SE good 32 brokerref06_ident_out) = bindC (callG SE good) := by unfold C30; rw [updC_real (fun _ h => h), updC_real (fun _ h => h)]
theorem brokerref06_publish_ok (p0 : api_Packet) : Le (Option.map brokerref06_publish_out (brokerref06_publish p0)) (callW SE 30 [api_Packet.av p0] [] []) := by
  refine le_bodyC Cr30 ?_
  refine Le.trans ?_ (le_of_eq (T30 _ _ _ _ _  p0).symm)
  unfold brokerref06_publish
  refine le_call (good := good) (fun y => ⟨y, rfl⟩) brokerref05_Check_inj (brokerref05_Check_ok p0.Message) (fun r0 _ => ?_)
  refine le_cond rfl (fun _ => ?_) (fun _ => ?_)
  · skip
    exact le_ret (by first | rfl | (simp only [EN, brokerref06_publish_out]; done) | (simp only [EN, brokerref06_publish_out]; rfl))
  · skip
    refine le_cond rfl (fun _ => ?_) (fun _ => ?_)
    · skip
      refine le_cond rfl (fun _ => ?_) (fun _ => ?_)
      · skip
        exact le_ret (by first | rfl | (simp only [EN, brokerref06_publish_out]; done) | (simp only [EN, brokerref06_publish_out]; rfl))
      · skip
        refine le_cond rfl (fun _ => ?_) (fun _ => ?_)
        · skip
          exact le_ret (by first | rfl | (simp only [EN, brokerref06_publish_out]; done) | (simp only [EN, brokerref06_publish_out]; rfl))
        · skip
          exact le_ret (by first | rfl | (simp only [EN, brokerref06_publish_out]; done) | (simp only [EN, brokerref06_publish_out]; rfl))
    · skip
      refine le_call (good := good) (fun y => ⟨y, rfl⟩) brokerref06_ident_inj (brokerref06_ident_ok p0.ID) (fun r1 _ => ?_)
      exact le_ret (by first | rfl | (simp only [EN, brokerref06_publish_out]; done) | (simp only [EN, brokerref06_publish_out]; rfl))
def C31 (Γ : Fun)  : CFun := bindC Γ
theorem T31 (Γ : Fun)  (Λ2 J : Lam) (p0 : Int) : bodyC SE (C31 Γ) Λ2 J 31 [.d (.int .i64 p0)] [] [] =
  cond (decide (p0 ≥ 0)) (
   (some (.ret [.d (.bool (decide (p0 ≤ 29)))] [] []))) (
  (some (.ret [.d (.bool false)] [] []))) := by kernel_rfl
abbrev X31 : CFun := C31 (callG SE good)
theorem Cr31 : C31 (callG SE good) = bindC (callG SE good) := by unfold C31; rfl
theorem brokerref06_Code_ok (p0 : Int) : Le (Option.map brokerref06_Code_out (brokerref06_Code p0)) (callW SE 31 [.d (.int .i64 p0)] [] []) := by
  refine le_bodyC Cr31 ?_
  refine Le.trans ?_ (le_of_eq (T31 _ _ _  p0).symm)
  unfold brokerref06_Code
  refine le_cond rfl (fun _ => ?_) (fun _ => ?_)
  · skip
    exact le_ret (by first | rfl | (simp only [EN, brokerref06_Code_out]; done) | (simp only [EN, brokerref06_Code_out]; rfl))
  · skip
    exact le_ret (by first | rfl | (simp only [EN, brokerref06_Code_out]; done) | (simp only [EN, brokerref06_Code_out]; rfl))
def C33 (Γ : Fun)  : CFun := bindC Γ
theorem T33 (Γ : Fun)  (Λ2 J : Lam) (p0 : Int) : bodyC SE (C33 Γ) Λ2 J 33 [.d (.int .i64 p0)] [] [] =
  cond (p0 == 0) (
   (some (.ret [.d (.int .i64 1)] [] []))) (
  cond (decide (p0 > 32)) (
   (some (.ret [.d (.int .i64 5)] [] []))) (
  (some (.ret [.d (.int .i64 0)] [] [])))) := by kernel_rfl
abbrev X33 : CFun := C33 (callG SE good)
theorem Cr33 : C33 (callG SE good) = bindC (callG SE good) := by unfold C33; rfl
theorem brokerref06_count_ok (p0 : Int) : Le (Option.map brokerref06_count_out (brokerref06_count p0)) (callW SE 33 [.d (.int .i64 p0)] [] []) := by
  refine le_bodyC Cr33 ?_
  refine Le.trans ?_ (le_of_eq (T33 _ _ _  p0).symm)
  unfold brokerref06_count
  refine le_cond rfl (fun _ => ?_) (fun _ => ?_)
  · skip
    exact le_ret (by first | rfl | (simp only [EN, brokerref06_count_out]; done) | (simp only [EN, brokerref06_count_out]; rfl))
  · skip
    refine le_cond rfl (fun _ => ?_) (fun _ => ?_)
    · skip
      exact le_ret (by first | rfl | (simp only [EN, brokerref06_count_out]; done) | (simp only [EN, brokerref06_count_out]; rfl))
    · skip
      exact le_ret (by first | rfl | (simp only [EN, brokerref06_count_out]; done) | (simp only [EN, brokerref06_count_out]; rfl))
def C72 (Γ : Fun)  : CFun := bindC Γ
theorem T72 (Γ : Fun)  (Λ2 J : Lam) (p0 : Str) (p1 : Str) : bodyC SE (C72 Γ) Λ2 J 72 [.d (.str p0), .d (.str p1)] [] [] =
  cond (decide ((List.length p0 : Int) ≥ (List.length p1 : Int))) (
   cond (decide (0 ≤ (List.length p1 : Int)) && decide ((List.length p1 : Int) ≤ ((List.length p0) : Int))) (
    (some (.ret [.d (.bool ((cutL p0 none (some (List.length p1 : Int))) == p1))] [] []))) none) (
  (some (.ret [.d (.bool false)] [] []))) := by kernel_rfl
abbrev X72 : CFun := C72 (callG SE good)
theorem Cr72 : C72 (callG SE good) = bindC (callG SE good) := by unfold C72; rfl
theorem brokerref01_Begins_ok (p0 : Str) (p1 : Str) : Le (Option.map brokerref01_Begins_out (brokerref01_Begins p0 p1)) (callW SE 72 [.d (.str p0), .d (.str p1)] [] []) := by
  refine le_bodyC Cr72 ?_
  refine Le.trans ?_ (le_of_eq (T72 _ _ _  p0 p1).symm)
  unfold brokerref01_Begins
  refine le_cond rfl (fun _ => ?_) (fun _ => ?_)
  · skip
    refine le_cond rfl (fun _ => ?_) (fun _ => le_none)
    exact le_ret (by first | rfl | (simp only [EN, brokerref01_Begins_out]; done) | (simp only [EN, brokerref01_Begins_out]; rfl))
  · skip
    exact le_ret (by first | rfl | (simp only [EN, brokerref01_Begins_out]; done) | (simp only [EN, brokerref01_Begins_out]; rfl))
def C71 (Γ : Fun) (γ79 : Gm (Bool)) (γ82 : Gm ((List Str))) (γ80 : Gm (Bool)) : CFun := updC (updC (updC (bindC Γ) 79 brokerref01_sized_out γ79) 82 brokerref01_Levels_out γ82) 80 brokerref01_Has_out γ80
def R71_9 (C : CFun) (Λ2 J : Lam) (a0 : Int) (a1 : (List (List D))) : Res := lab SE C Λ2 J 71 0 [1, 1, 1, 0, 1, 0, 0, 1, 0, 0, 1, 0] (stoOf [(3, .row 3003), (4, .d (.int .i64 a0))] [] [] [] [(3003, ⟨[.str], 9, 16, a1⟩)])
def R71_5 (C : CFun) (Λ2 J : Lam) (a0 : Int) (a1 : (List (List D))) : Res := lab SE C Λ2 J 71 0 [1, 1, 1, 0, 1, 0] (stoOf [(3, .row 3003), (4, .d (.int .i64 a0))] [] [] [] [(3003, ⟨[.str], 9, 16, a1⟩)])
theorem T71 (Γ : Fun) (γ79 : Gm (Bool)) (γ82 : Gm ((List Str))) (γ80 : Gm (Bool)) (Λ2 J : Lam) (p0 : Str) : bodyC SE (C71 Γ γ79 γ82 γ80) Λ2 J 71 [.d (.str p0)] [] [] =
  γ79 [.d (.str p0)] [] [] fun r0 =>
  cond (!r0) (
   (some (.ret [.d (.bool false)] [] []))) (
  γ82 [.d (.str p0)] [] [] fun r1 =>
  R71_5 (C71 Γ γ79 γ82 γ80) Λ2 J 0 (List.map encS r1)) := by kernel_rfl
theorem T71_9 (Γ : Fun) (γ79 : Gm (Bool)) (γ82 : Gm ((List Str))) (γ80 : Gm (Bool)) (Λ2 J : Lam) (x4 : Int) (w3003 : (List Str)) : labU SE (C71 Γ γ79 γ82 γ80) Λ2 J 71 0 [1, 1, 1, 0, 1, 0, 0, 1, 0, 0, 1, 0] (stoOf [(3, .row 3003), (4, .d (.int .i64 x4))] [] [] [] [(3003, ⟨[.str], 9, 16, (List.map encS w3003)⟩)]) =
  cond (decide (0 ≤ x4) && decide (x4 < (List.length (List.map encS w3003) : Int))) (
   γ80 [.d (.str (dStr (cellAt (elemAt (List.map encS w3003) (Int.toNat x4)) 0))), .d (.int .u8 35)] [] [] fun r3 =>
   cond r3 (
    cond (decide (0 ≤ x4) && decide (x4 < (List.length (List.map encS w3003) : Int))) (
     cond (!((dStr (cellAt (elemAt (List.map encS w3003) (Int.toNat x4)) 0)) == ([35] : Str))) (
      (some (.ret [.d (.bool false)] [] []))) (
     cond (x4 != (IntKind.wrap .i64 ((List.length (List.map encS w3003) : Int) - 1))) (
      (some (.ret [.d (.bool false)] [] []))) (
     R71_5 (C71 Γ γ79 γ82 γ80) Λ2 J (IntKind.wrap .i64 (x4 + 1)) (List.map encS w3003)))) none) (
   R71_5 (C71 Γ γ79 γ82 γ80) Λ2 J (IntKind.wrap .i64 (x4 + 1)) (List.map encS w3003))) none := by kernel_rfl
theorem T71_5 (Γ : Fun) (γ79 : Gm (Bool)) (γ82 : Gm ((List Str))) (γ80 : Gm (Bool)) (Λ2 J : Lam) (x4 : Int) (w3003 : (List Str)) : labU SE (C71 Γ γ79 γ82 γ80) Λ2 J 71 0 [1, 1, 1, 0, 1, 0] (stoOf [(3, .row 3003), (4, .d (.int .i64 x4))] [] [] [] [(3003, ⟨[.str], 9, 16, (List.map encS w3003)⟩)]) =
  cond (decide (x4 < (List.length (List.map encS w3003) : Int))) (
   cond (decide (0 ≤ x4) && decide (x4 < (List.length (List.map encS w3003) : Int))) (
    γ80 [.d (.str (dStr (cellAt (elemAt (List.map encS w3003) (Int.toNat x4)) 0))), .d (.int .u8 43)] [] [] fun r2 =>
    cond r2 (
     cond (decide (0 ≤ x4) && decide (x4 < (List.length (List.map encS w3003) : Int))) (
      cond (!((dStr (cellAt (elemAt (List.map encS w3003) (Int.toNat x4)) 0)) == ([43] : Str))) (
       (some (.ret [.d (.bool false)] [] []))) (
      R71_9 (C71 Γ γ79 γ82 γ80) Λ2 J x4 (List.map encS w3003))) none) (
    R71_9 (C71 Γ γ79 γ82 γ80) Λ2 J x4 (List.map encS w3003))) none) (
  (some (.ret [.d (.bool true)] [] []))) := by kernel_rfl
abbrev X71 : CFun := C71 (callG SE good) (callT SE good 79 brokerref01_sized_out) (callT SE good 82 brokerref01_Levels_out) (callT SE good 80 brokerref01_Has_out)
theorem Cr71 : C71 (callG SE good) (callT SE good 79 brokerref01_sized_out) (callT SE good 82 brokerref01_Levels_out) (callT SE good 80 brokerref01_Has_out) = bindC (callG SE good) := by unfold C71; rw [updC_real (fun _ h => h), updC_real (fun _ h => h), updC_real (fun _ h => h)]
noncomputable abbrev Q71_9 (a0 : Int) (a1 : (List (List D))) : Res := R71_9 X71 (lam2 SE (callG SE good) (SE.hl 71) (SE.hr 71)) (J0 SE X71) a0 a1
noncomputable abbrev Q71_5 (a0 : Int) (a1 : (List (List D))) : Res := R71_5 X71 (lam2 SE (callG SE good) (SE.hl 71) (SE.hr 71)) (J0 SE X71) a0 a1
theorem brokerref01_Filter_j9_ok (k5 : Int → (List Str) → Option (Bool)) (hk5 : ∀ (x4 : Int) (w3003 : (List Str)), Le (Option.map brokerref01_Filter_out (k5 x4 w3003)) (Q71_5 x4 (List.map encS w3003))) (x4 : Int) (w3003 : (List Str)) : Le (Option.map brokerref01_Filter_out (brokerref01_Filter_j9 k5 x4 w3003)) (Q71_9 x4 (List.map encS w3003)) := by
  refine Le.trans ?_ (le_of_eq ((lab_realC Cr71).trans (T71_9 _ _ _ _ _ _  x4 w3003)).symm)
  unfold brokerref01_Filter_j9
  refine le_cond (by simp only [EN]) (fun _ => ?_) (fun _ => le_none)
  refine le_call (good := good) (fun y => ⟨y, rfl⟩) brokerref01_Has_inj (by first | (simp only [EN]; exact brokerref01_Has_ok (List.getD w3003 (Int.toNat x4) default) 35) | exact brokerref01_Has_ok (List.getD w3003 (Int.toNat x4) default) 35) (fun r3 _ => ?_)
  refine le_cond rfl (fun _ => ?_) (fun _ => ?_)
  · skip
    refine le_cond (by simp only [EN]) (fun _ => ?_) (fun _ => le_none)
    refine le_cond (by simp only [EN]) (fun _ => ?_) (fun _ => ?_)
    · skip
      exact le_ret (by first | rfl | (simp only [EN, brokerref01_Filter_out]; done) | (simp only [EN, brokerref01_Filter_out]; rfl))
    · skip
      refine le_cond (by simp only [EN]) (fun _ => ?_) (fun _ => ?_)
      · skip
        exact le_ret (by first | rfl | (simp only [EN, brokerref01_Filter_out]; done) | (simp only [EN, brokerref01_Filter_out]; rfl))
      · skip
        exact hk5 (IntKind.wrap .i64 (x4 + 1)) w3003
  · skip
    exact hk5 (IntKind.wrap .i64 (x4 + 1)) w3003
theorem brokerref01_Filter_l5_ok : ∀ (fu : Nat) (x4 : Int) (w3003 : (List Str)), Le (Option.map brokerref01_Filter_out (brokerref01_Filter_l5 fu x4 w3003)) (Q71_5 x4 (List.map encS w3003)) := by
  intro fu
  induction fu with
  | zero => intros; exact le_none
  | succ fu ih =>
    intro x4 w3003
    refine Le.trans ?_ (le_of_eq ((lab_realC Cr71).trans (T71_5 _ _ _ _ _ _  x4 w3003)).symm)
    unfold brokerref01_Filter_l5
    refine le_cond (by simp only [EN]) (fun _ => ?_) (fun _ => ?_)
    · skip
      refine le_cond (by simp only [EN]) (fun _ => ?_) (fun _ => le_none)
      refine le_call (good := good) (fun y => ⟨y, rfl⟩) brokerref01_Has_inj (by first | (simp only [EN]; exact brokerref01_Has_ok (List.getD w3003 (Int.toNat x4) default) 43) | exact brokerref01_Has_ok (List.getD w3003 (Int.toNat x4) default) 43) (fun r2 _ => ?_)
      refine le_cond rfl (fun _ => ?_) (fun _ => ?_)
      · skip
        refine le_cond (by simp only [EN]) (fun _ => ?_) (fun _ => le_none)
        refine le_cond (by simp only [EN]) (fun _ => ?_) (fun _ => ?_)
        · skip
          exact le_ret (by first | rfl | (simp only [EN, brokerref01_Filter_out]; done) | (simp only [EN, brokerref01_Filter_out]; rfl))
        · skip
          exact brokerref01_Filter_j9_ok _ (ih) x4 w3003
      · skip
        exact brokerref01_Filter_j9_ok _ (ih) x4 w3003
    · skip
      exact le_ret (by first | rfl | (simp only [EN, brokerref01_Filter_out]; done) | (simp only [EN, brokerref01_Filter_out]; rfl))
theorem brokerref01_Filter_ok (p0 : Str) : Le (Option.map brokerref01_Filter_out (brokerref01_Filter p0)) (callW SE 71 [.d (.str p0)] [] []) := by
  refine le_bodyC Cr71 ?_
  refine Le.trans ?_ (le_of_eq (T71 _ _ _ _ _ _  p0).symm)
  unfold brokerref01_Filter
  refine le_call (good := good) (fun y => ⟨y, rfl⟩) brokerref01_sized_inj (brokerref01_sized_ok p0) (fun r0 _ => ?_)
  refine le_cond rfl (fun _ => ?_) (fun _ => ?_)
  · skip
    exact le_ret (by first | rfl | (simp only [EN, brokerref01_Filter_out]; done) | (simp only [EN, brokerref01_Filter_out]; rfl))
  · skip
    refine le_call (good := good) (fun y => ⟨y, rfl⟩) brokerref01_Levels_inj (brokerref01_Levels_ok p0) (fun r1 _ => ?_)
    exact brokerref01_Filter_l5_ok fuel 0 r1
def C70 (Γ : Fun) (γ72 : Gm (Bool)) (γ24 : Gm (Bool)) (γ71 : Gm (Bool)) : CFun := updC (updC (updC (bindC Γ) 72 brokerref01_Begins_out γ72) 24 brokerref01_Name_out γ24) 71 brokerref01_Filter_out γ71
def R70_9 (C : CFun) (Λ2 J : Lam) (a0 : Str) (a1 : Int) : Res := lab SE C Λ2 J 70 0 [1, 1, 1, 1, 1, 1, 0] (stoOf [(5, .d (.str a0)), (6, .d (.int .i64 a1))] [] [] [] [])
def R70_7 (C : CFun) (Λ2 J : Lam) (a0 : Str) (a1 : Int) : Res := lab SE C Λ2 J 70 0 [1, 1, 1, 1, 1, 0, 0] (stoOf [(5, .d (.str a0)), (6, .d (.int .i64 a1))] [] [] [] [])
def R70_5 (C : CFun) (Λ2 J : Lam) (a0 : Str) (a1 : Int) : Res := lab SE C Λ2 J 70 0 [1, 1, 1, 1, 0, 0] (stoOf [(5, .d (.str a0)), (6, .d (.int .i64 a1))] [] [] [] [])
theorem T70 (Γ : Fun) (γ72 : Gm (Bool)) (γ24 : Gm (Bool)) (γ71 : Gm (Bool)) (Λ2 J : Lam) (p0 : Str) : bodyC SE (C70 Γ γ72 γ24 γ71) Λ2 J 70 [.d (.str p0)] [] [] =
  γ72 [.d (.str p0), .d (.str ([36, 115, 104, 97, 114, 101, 47] : Str))] [] [] fun r0 =>
  cond (!r0) (
   (some (.ret [.d (.str ([] : Str)), .d (.str ([] : Str)), .d (.bool false)] [] []))) (
  cond (decide (0 ≤ 7) && decide (7 ≤ ((List.length p0) : Int))) (
   R70_5 (C70 Γ γ72 γ24 γ71) Λ2 J (cutL p0 (some 7) none) 0) none) := by kernel_rfl
theorem T70_9 (Γ : Fun) (γ72 : Gm (Bool)) (γ24 : Gm (Bool)) (γ71 : Gm (Bool)) (Λ2 J : Lam) (x5 : Str) (x6 : Int) : labU SE (C70 Γ γ72 γ24 γ71) Λ2 J 70 0 [1, 1, 1, 1, 1, 1, 0] (stoOf [(5, .d (.str x5)), (6, .d (.int .i64 x6))] [] [] [] []) =
  cond (decide (0 ≤ x6) && decide (x6 ≤ ((List.length x5) : Int))) (
   cond (decide (0 ≤ (IntKind.wrap .i64 (x6 + 1))) && decide ((IntKind.wrap .i64 (x6 + 1)) ≤ ((List.length x5) : Int))) (
    (some (.ret [.d (.str (cutL x5 none (some x6))), .d (.str (cutL x5 (some (IntKind.wrap .i64 (x6 + 1))) none)), .d (.bool true)] [] []))) none) none := by kernel_rfl
theorem T70_7 (Γ : Fun) (γ72 : Gm (Bool)) (γ24 : Gm (Bool)) (γ71 : Gm (Bool)) (Λ2 J : Lam) (x5 : Str) (x6 : Int) : labU SE (C70 Γ γ72 γ24 γ71) Λ2 J 70 0 [1, 1, 1, 1, 1, 0, 0] (stoOf [(5, .d (.str x5)), (6, .d (.int .i64 x6))] [] [] [] []) =
  cond (x6 == (List.length x5 : Int)) (
   (some (.ret [.d (.str ([] : Str)), .d (.str ([] : Str)), .d (.bool false)] [] []))) (
  cond (decide (0 ≤ x6) && decide (x6 ≤ ((List.length x5) : Int))) (
   γ24 [.d (.str (cutL x5 none (some x6)))] [] [] fun r1 =>
   cond (!r1) (
    (some (.ret [.d (.str ([] : Str)), .d (.str ([] : Str)), .d (.bool false)] [] []))) (
   cond (decide (0 ≤ (IntKind.wrap .i64 (x6 + 1))) && decide ((IntKind.wrap .i64 (x6 + 1)) ≤ ((List.length x5) : Int))) (
    γ71 [.d (.str (cutL x5 (some (IntKind.wrap .i64 (x6 + 1))) none))] [] [] fun r2 =>
    cond (!r2) (
     (some (.ret [.d (.str ([] : Str)), .d (.str ([] : Str)), .d (.bool false)] [] []))) (
    cond (decide (0 ≤ (IntKind.wrap .i64 (x6 + 1))) && decide ((IntKind.wrap .i64 (x6 + 1)) ≤ ((List.length x5) : Int))) (
     γ72 [.d (.str (cutL x5 (some (IntKind.wrap .i64 (x6 + 1))) none)), .d (.str ([36, 115, 104, 97, 114, 101, 47] : Str))] [] [] fun r3 =>
     cond r3 (
      (some (.ret [.d (.str ([] : Str)), .d (.str ([] : Str)), .d (.bool false)] [] []))) (
     R70_9 (C70 Γ γ72 γ24 γ71) Λ2 J x5 x6)) none)) none)) none) := by kernel_rfl
theorem T70_5 (Γ : Fun) (γ72 : Gm (Bool)) (γ24 : Gm (Bool)) (γ71 : Gm (Bool)) (Λ2 J : Lam) (x5 : Str) (x6 : Int) : labU SE (C70 Γ γ72 γ24 γ71) Λ2 J 70 0 [1, 1, 1, 1, 0, 0] (stoOf [(5, .d (.str x5)), (6, .d (.int .i64 x6))] [] [] [] []) =
  cond (decide (x6 < (List.length x5 : Int))) (
   cond (decide (0 ≤ x6) && decide (x6 < (List.length x5 : Int))) (
    cond ((UInt8.toNat (List.getD x5 (Int.toNat x6) 0) : Int) != 47) (
     R70_5 (C70 Γ γ72 γ24 γ71) Λ2 J x5 (IntKind.wrap .i64 (x6 + 1))) (
    R70_7 (C70 Γ γ72 γ24 γ71) Λ2 J x5 x6)) none) (
  R70_7 (C70 Γ γ72 γ24 γ71) Λ2 J x5 x6) := by kernel_rfl
abbrev X70 : CFun := C70 (callG SE good) (callT SE good 72 brokerref01_Begins_out) (callT SE good 24 brokerref01_Name_out) (callT SE good 71 brokerref01_Filter_out)
theorem Cr70 : C70 (callG SE good) (callT SE good 72 brokerref01_Begins_out) (callT SE good 24 brokerref01_Name_out) (callT SE good 71 brokerref01_Filter_out) = bindC (callG SE good) := by unfold C70; rw [updC_real (fun _ h => h), updC_real (fun _ h => h), updC_real (fun _ h => h)]
noncomputable abbrev Q70_9 (a0 : Str) (a1 : Int) : Res := R70_9 X70 (lam2 SE (callG SE good) (SE.hl 70) (SE.hr 70)) (J0 SE X70) a0 a1
noncomputable abbrev Q70_7 (a0 : Str) (a1 : Int) : Res := R70_7 X70 (lam2 SE (callG SE good) (SE.hl 70) (SE.hr 70)) (J0 SE X70) a0 a1
noncomputable abbrev Q70_5 (a0 : Str) (a1 : Int) : Res := R70_5 X70 (lam2 SE (callG SE good) (SE.hl 70) (SE.hr 70)) (J0 SE X70) a0 a1
theorem brokerref01_Shared_j9_ok (x5 : Str) (x6 : Int) : Le (Option.map brokerref01_Shared_out (brokerref01_Shared_j9 x5 x6)) (Q70_9 x5 x6) := by
  refine Le.trans ?_ (le_of_eq ((lab_realC Cr70).trans (T70_9 _ _ _ _ _ _  x5 x6)).symm)
  unfold brokerref01_Shared_j9
  refine le_cond rfl (fun _ => ?_) (fun _ => le_none)
  refine le_cond rfl (fun _ => ?_) (fun _ => le_none)
  exact le_ret (by first | rfl | (simp only [EN, brokerref01_Shared_out]; done) | (simp only [EN, brokerref01_Shared_out]; rfl))
theorem brokerref01_Shared_j7_ok (x5 : Str) (x6 : Int) : Le (Option.map brokerref01_Shared_out (brokerref01_Shared_j7 x5 x6)) (Q70_7 x5 x6) := by
  refine Le.trans ?_ (le_of_eq ((lab_realC Cr70).trans (T70_7 _ _ _ _ _ _  x5 x6)).symm)
  unfold brokerref01_Shared_j7
  refine le_cond rfl (fun _ => ?_) (fun _ => ?_)
  · skip
    exact le_ret (by first | rfl | (simp only [EN, brokerref01_Shared_out]; done) | (simp only [EN, brokerref01_Shared_out]; rfl))
  · skip
    refine le_cond rfl (fun _ => ?_) (fun _ => le_none)
    refine le_call (good := good) (fun y => ⟨y, rfl⟩) brokerref01_Name_inj (brokerref01_Name_ok (cutL x5 none (some x6))) (fun r1 _ => ?_)
    refine le_cond rfl (fun _ => ?_) (fun _ => ?_)
    · skip
      exact le_ret (by first | rfl | (simp only [EN, brokerref01_Shared_out]; done) | (simp only [EN, brokerref01_Shared_out]; rfl))
    · skip
      refine le_cond rfl (fun _ => ?_) (fun _ => le_none)
      refine le_call (good := good) (fun y => ⟨y, rfl⟩) brokerref01_Filter_inj (brokerref01_Filter_ok (cutL x5 (some (IntKind.wrap .i64 (x6 + 1))) none)) (fun r2 _ => ?_)
      refine le_cond rfl (fun _ => ?_) (fun _ => ?_)
      · skip
        exact le_ret (by first | rfl | (simp only [EN, brokerref01_Shared_out]; done) | (simp only [EN, brokerref01_Shared_out]; rfl))
      · skip
        refine le_cond rfl (fun _ => ?_) (fun _ => le_none)
        refine le_call (good := good) (fun y => ⟨y, rfl⟩) brokerref01_Begins_inj (brokerref01_Begins_ok (cutL x5 (some (IntKind.wrap .i64 (x6 + 1))) none) ([36, 115, 104, 97, 114, 101, 47] : Str)) (fun r3 _ => ?_)
        refine le_cond rfl (fun _ => ?_) (fun _ => ?_)
        · skip
          exact le_ret (by first | rfl | (simp only [EN, brokerref01_Shared_out]; done) | (simp only [EN, brokerref01_Shared_out]; rfl))
        · skip
          exact brokerref01_Shared_j9_ok x5 x6
theorem brokerref01_Shared_l5_ok : ∀ (fu : Nat) (x5 : Str) (x6 : Int), Le (Option.map brokerref01_Shared_out (brokerref01_Shared_l5 fu x5 x6)) (Q70_5 x5 x6) := by
  intro fu
  induction fu with
  | zero => intros; exact le_none
  | succ fu ih =>
    intro x5 x6
    refine Le.trans ?_ (le_of_eq ((lab_realC Cr70).trans (T70_5 _ _ _ _ _ _  x5 x6)).symm)
    unfold brokerref01_Shared_l5
    refine le_cond rfl (fun _ => ?_) (fun _ => ?_)
    · skip
      refine le_cond rfl (fun _ => ?_) (fun _ => le_none)
      refine le_cond rfl (fun _ => ?_) (fun _ => ?_)
      · skip
        exact ih x5 (IntKind.wrap .i64 (x6 + 1))
      · skip
        exact brokerref01_Shared_j7_ok x5 x6
    · skip
      exact brokerref01_Shared_j7_ok x5 x6
theorem brokerref01_Shared_ok (p0 : Str) : Le (Option.map brokerref01_Shared_out (brokerref01_Shared p0)) (callW SE 70 [.d (.str p0)] [] []) := by
  refine le_bodyC Cr70 ?_
  refine Le.trans ?_ (le_of_eq (T70 _ _ _ _ _ _  p0).symm)
  unfold brokerref01_Shared
  refine le_call (good := good) (fun y => ⟨y, rfl⟩) brokerref01_Begins_inj (brokerref01_Begins_ok p0 ([36, 115, 104, 97, 114, 101, 47] : Str)) (fun r0 _ => ?_)
  refine le_cond rfl (fun _ => ?_) (fun _ => ?_)
  · skip
    exact le_ret (by first | rfl | (simp only [EN, brokerref01_Shared_out]; done) | (simp only [EN, brokerref01_Shared_out]; rfl))
  · skip
    refine le_cond rfl (fun _ => ?_) (fun _ => le_none)
    exact brokerref01_Shared_l5_ok fuel (cutL p0 (some 7) none) 0
def C58 (Γ : Fun) (γ70 : Gm (Str × Str × Bool)) (γ71 : Gm (Bool)) (γ72 : Gm (Bool)) : CFun := updC (updC (updC (bindC Γ) 70 brokerref01_Shared_out γ70) 71 brokerref01_Filter_out γ71) 72 brokerref01_Begins_out γ72
theorem T58 (Γ : Fun) (γ70 : Gm (Str × Str × Bool)) (γ71 : Gm (Bool)) (γ72 : Gm (Bool)) (Λ2 J : Lam) (p0 : Str) : bodyC SE (C58 Γ γ70 γ71 γ72) Λ2 J 58 [.d (.str p0)] [] [] =
  γ70 [.d (.str p0)] [] [] fun r0 =>
  cond r0.2.2 (
   (some (.ret [.d (.bool true)] [] []))) (
  γ71 [.d (.str p0)] [] [] fun r1 =>
  cond r1 (
   γ72 [.d (.str p0), .d (.str ([36, 115, 104, 97, 114, 101, 47] : Str))] [] [] fun r2 =>
   (some (.ret [.d (.bool (!r2))] [] []))) (
  (some (.ret [.d (.bool false)] [] [])))) := by kernel_rfl
abbrev X58 : CFun := C58 (callG SE good) (callT SE good 70 brokerref01_Shared_out) (callT SE good 71 brokerref01_Filter_out) (callT SE good 72 brokerref01_Begins_out)
theorem Cr58 : C58 (callG SE good) (callT SE good 70 brokerref01_Shared_out) (callT SE good 71 brokerref01_Filter_out) (callT SE good 72 brokerref01_Begins_out) = bindC (callG SE good) := by unfold C58; rw [updC_real (fun _ h => h), updC_real (fun _ h => h), updC_real (fun _ h => h)]
theorem brokerref01_Wanted_ok (p0 : Str) : Le (Option.map brokerref01_Wanted_out (brokerref01_Wanted p0)) (callW SE 58 [.d (.str p0)] [] []) := by
  refine le_bodyC Cr58 ?_
  refine Le.trans ?_ (le_of_eq (T58 _ _ _ _ _ _  p0).symm)
  unfold brokerref01_Wanted
  refine le_call (good := good) (fun y => ⟨y, rfl⟩) brokerref01_Shared_inj (brokerref01_Shared_ok p0) (fun r0 _ => ?_)
  refine le_cond rfl (fun _ => ?_) (fun _ => ?_)
  · skip
    exact le_ret (by first | rfl | (simp only [EN, brokerref01_Wanted_out]; done) | (simp only [EN, brokerref01_Wanted_out]; rfl))
  · skip
    refine le_call (good := good) (fun y => ⟨y, rfl⟩) brokerref01_Filter_inj (brokerref01_Filter_ok p0) (fun r1 _ => ?_)
    refine le_cond rfl (fun _ => ?_) (fun _ => ?_)
    · skip
      refine le_call (good := good) (fun y => ⟨y, rfl⟩) brokerref01_Begins_inj (brokerref01_Begins_ok p0 ([36, 115, 104, 97, 114, 101, 47] : Str)) (fun r2 _ => ?_)
      exact le_ret (by first | rfl | (simp only [EN, brokerref01_Wanted_out]; done) | (simp only [EN, brokerref01_Wanted_out]; rfl))
    · skip
      exact le_ret (by first | rfl | (simp only [EN, brokerref01_Wanted_out]; done) | (simp only [EN, brokerref01_Wanted_out]; rfl))
def C57 (Γ : Fun) (γ58 : Gm (Bool)) (γ70 : Gm (Str × Str × Bool)) : CFun := updC (updC (bindC Γ) 58 brokerref01_Wanted_out γ58) 70 brokerref01_Shared_out γ70
def R57_5 (C : CFun) (Λ2 J : Lam) (a0 : (List D)) : Res := lab SE C Λ2 J 57 0 [1, 1, 1, 0] (stoOf [(1, .ptr 1000000000 0)] [⟨65, (List.map AV.d a0)⟩] [] [] [])
theorem T57 (Γ : Fun) (γ58 : Gm (Bool)) (γ70 : Gm (Str × Str × Bool)) (Λ2 J : Lam) (p0 : api_Sub) : bodyC SE (C57 Γ γ58 γ70) Λ2 J 57 [api_Sub.av p0] [] [] =
  γ58 [.d (.str p0.Filter)] [] [] fun r0 =>
  cond (!r0) (
   (some (.ret [.d (.int .i64 13)] [] []))) (
  cond (decide (p0.Level < 0)) (
   (some (.ret [.d (.int .i64 14)] [] []))) (
  cond (decide (p0.Level > 2)) (
   (some (.ret [.d (.int .i64 14)] [] []))) (
  R57_5 (C57 Γ γ58 γ70) Λ2 J (api_Sub.enc p0)))) := by kernel_rfl
theorem T57_5 (Γ : Fun) (γ58 : Gm (Bool)) (γ70 : Gm (Str × Str × Bool)) (Λ2 J : Lam) (b0 : api_Sub) : labU SE (C57 Γ γ58 γ70) Λ2 J 57 0 [1, 1, 1, 0] (stoOf [(1, .ptr 1000000000 0)] [⟨65, (List.map AV.d (api_Sub.enc b0))⟩] [] [] []) =
  γ70 [.d (.str b0.Filter)] [] [] fun r1 =>
  cond b0.NoLocal (
   cond r1.2.2 (
    (some (.ret [.d (.int .i64 28)] [] []))) (
   (some (.ret [.d (.int .i64 0)] [] [])))) (
  (some (.ret [.d (.int .i64 0)] [] []))) := by kernel_rfl
abbrev X57 : CFun := C57 (callG SE good) (callT SE good 58 brokerref01_Wanted_out) (callT SE good 70 brokerref01_Shared_out)
theorem Cr57 : C57 (callG SE good) (callT SE good 58 brokerref01_Wanted_out) (callT SE good 70 brokerref01_Shared_out) = bindC (callG SE good) := by unfold C57; rw [updC_real (fun _ h => h), updC_real (fun _ h => h)]
noncomputable abbrev Q57_5 (a0 : (List D)) : Res := R57_5 X57 (lam2 SE (callG SE good) (SE.hl 57) (SE.hr 57)) (J0 SE X57) a0
theorem brokerref06_Sub_j5_ok (b0 : api_Sub) : Le (Option.map brokerref06_Sub_out (brokerref06_Sub_j5 b0)) (Q57_5 (api_Sub.enc b0)) := by
  refine Le.trans ?_ (le_of_eq ((lab_realC Cr57).trans (T57_5 _ _ _ _ _  b0)).symm)
  unfold brokerref06_Sub_j5
  refine le_call (good := good) (fun y => ⟨y, rfl⟩) brokerref01_Shared_inj (brokerref01_Shared_ok b0.Filter) (fun r1 _ => ?_)
  refine le_cond rfl (fun _ => ?_) (fun _ => ?_)
  · skip
    refine le_cond rfl (fun _ => ?_) (fun _ => ?_)
    · skip
      exact le_ret (by first | rfl | (simp only [EN, brokerref06_Sub_out]; done) | (simp only [EN, brokerref06_Sub_out]; rfl))
    · skip
      exact le_ret (by first | rfl | (simp only [EN, brokerref06_Sub_out]; done) | (simp only [EN, brokerref06_Sub_out]; rfl))
  · skip
    exact le_ret (by first | rfl | (simp only [EN, brokerref06_Sub_out]; done) | (simp only [EN, brokerref06_Sub_out]; rfl))
theorem brokerref06_Sub_ok (p0 : api_Sub) : Le (Option.map brokerref06_Sub_out (brokerref06_Sub p0)) (callW SE 57 [api_Sub.av p0] [] []) := by
  refine le_bodyC Cr57 ?_
  refine Le.trans ?_ (le_of_eq (T57 _ _ _ _ _  p0).symm)
  unfold brokerref06_Sub
  refine le_call (good := good) (fun y => ⟨y, rfl⟩) brokerref01_Wanted_inj (brokerref01_Wanted_ok p0.Filter) (fun r0 _ => ?_)
  refine le_cond rfl (fun _ => ?_) (fun _ => ?_)
  · skip
    exact le_ret (by first | rfl | (simp only [EN, brokerref06_Sub_out]; done) | (simp only [EN, brokerref06_Sub_out]; rfl))
  · skip
    refine le_cond rfl (fun _ => ?_) (fun _ => ?_)
    · skip
      exact le_ret (by first | rfl | (simp only [EN, brokerref06_Sub_out]; done) | (simp only [EN, brokerref06_Sub_out]; rfl))
    · skip
      refine le_cond rfl (fun _ => ?_) (fun _ => ?_)
      · skip
        exact le_ret (by first | rfl | (simp only [EN, brokerref06_Sub_out]; done) | (simp only [EN, brokerref06_Sub_out]; rfl))
      · skip
        exact brokerref06_Sub_j5_ok p0
def C34 (Γ : Fun) (γ57 : Gm (Int)) (γ58 : Gm (Bool)) (γ31 : Gm (Bool)) : CFun := updC (updC (updC (bindC Γ) 57 brokerref06_Sub_out γ57) 58 brokerref01_Wanted_out γ58) 31 brokerref06_Code_out γ31
def R34_13 (C : CFun) (Λ2 J : Lam) (a0 : Int) (a1 : (List D)) : Res := lab SE C Λ2 J 34 0 [1, 1, 1, 0, 1, 0] (stoOf [(1, .ptr 1000000000 0), (6, .d (.int .i64 a0))] [⟨39, (List.map AV.d a1)⟩] [] [] [])
def R34_8 (C : CFun) (Λ2 J : Lam) (a0 : Int) (a1 : (List D)) : Res := lab SE C Λ2 J 34 0 [1, 1, 0, 1, 0] (stoOf [(1, .ptr 1000000000 0), (5, .d (.int .i64 a0))] [⟨39, (List.map AV.d a1)⟩] [] [] [])
def R34_2 (C : CFun) (Λ2 J : Lam) (a0 : Int) (a1 : (List D)) : Res := lab SE C Λ2 J 34 0 [1, 0, 1, 0] (stoOf [(1, .ptr 1000000000 0), (3, .d (.int .i64 a0))] [⟨39, (List.map AV.d a1)⟩] [] [] [])
theorem T34 (Γ : Fun) (γ57 : Gm (Int)) (γ58 : Gm (Bool)) (γ31 : Gm (Bool)) (Λ2 J : Lam) (p0 : api_Packet) : bodyC SE (C34 Γ γ57 γ58 γ31) Λ2 J 34 [api_Packet.av p0] [] [] =
  R34_2 (C34 Γ γ57 γ58 γ31) Λ2 J 0 (api_Packet.enc p0) := by kernel_rfl
theorem T34_13 (Γ : Fun) (γ57 : Gm (Int)) (γ58 : Gm (Bool)) (γ31 : Gm (Bool)) (Λ2 J : Lam) (x6 : Int) (b0 : api_Packet) : labU SE (C34 Γ γ57 γ58 γ31) Λ2 J 34 0 [1, 1, 1, 0, 1, 0] (stoOf [(1, .ptr 1000000000 0), (6, .d (.int .i64 x6))] [⟨39, (List.map AV.d (api_Packet.enc b0))⟩] [] [] []) =
  cond (decide (x6 < (List.length (List.map (encI .i64) b0.Codes) : Int))) (
   cond (decide (0 ≤ x6) && decide (x6 < (List.length (List.map (encI .i64) b0.Codes) : Int))) (
    γ31 [.d (.int .i64 (dInt (cellAt (elemAt (List.map (encI .i64) b0.Codes) (Int.toNat x6)) 0)))] [] [] fun r2 =>
    cond (!r2) (
     (some (.ret [.d (.int .i64 1)] [] []))) (
    R34_13 (C34 Γ γ57 γ58 γ31) Λ2 J (IntKind.wrap .i64 (x6 + 1)) (api_Packet.enc b0))) none) (
  (some (.ret [.d (.int .i64 0)] [] []))) := by kernel_rfl
theorem T34_8 (Γ : Fun) (γ57 : Gm (Int)) (γ58 : Gm (Bool)) (γ31 : Gm (Bool)) (Λ2 J : Lam) (x5 : Int) (b0 : api_Packet) : labU SE (C34 Γ γ57 γ58 γ31) Λ2 J 34 0 [1, 1, 0, 1, 0] (stoOf [(1, .ptr 1000000000 0), (5, .d (.int .i64 x5))] [⟨39, (List.map AV.d (api_Packet.enc b0))⟩] [] [] []) =
  cond (decide (x5 < (List.length (List.map encS b0.Filters) : Int))) (
   cond (decide (0 ≤ x5) && decide (x5 < (List.length (List.map encS b0.Filters) : Int))) (
    γ58 [.d (.str (dStr (cellAt (elemAt (List.map encS b0.Filters) (Int.toNat x5)) 0)))] [] [] fun r1 =>
    cond (!r1) (
     (some (.ret [.d (.int .i64 13)] [] []))) (
    R34_8 (C34 Γ γ57 γ58 γ31) Λ2 J (IntKind.wrap .i64 (x5 + 1)) (api_Packet.enc b0))) none) (
  R34_13 (C34 Γ γ57 γ58 γ31) Λ2 J 0 (api_Packet.enc b0)) := by kernel_rfl
theorem T34_2 (Γ : Fun) (γ57 : Gm (Int)) (γ58 : Gm (Bool)) (γ31 : Gm (Bool)) (Λ2 J : Lam) (x3 : Int) (b0 : api_Packet) : labU SE (C34 Γ γ57 γ58 γ31) Λ2 J 34 0 [1, 0, 1, 0] (stoOf [(1, .ptr 1000000000 0), (3, .d (.int .i64 x3))] [⟨39, (List.map AV.d (api_Packet.enc b0))⟩] [] [] []) =
  cond (decide (x3 < (List.length (List.map api_Sub.enc b0.Subs) : Int))) (
   cond (decide (0 ≤ x3) && decide (x3 < (List.length (List.map api_Sub.enc b0.Subs) : Int))) (
    γ57 [.agg [.d (.str (dStr (cellAt (elemAt (List.map api_Sub.enc b0.Subs) (Int.toNat x3)) 0))), .d (.int .i64 (dInt (cellAt (elemAt (List.map api_Sub.enc b0.Subs) (Int.toNat x3)) 1))), .d (.bool (dBool (cellAt (elemAt (List.map api_Sub.enc b0.Subs) (Int.toNat x3)) 2)))]] [] [] fun r0 =>
    cond (r0 != 0) (
     (some (.ret [.d (.int .i64 r0)] [] []))) (
    R34_2 (C34 Γ γ57 γ58 γ31) Λ2 J (IntKind.wrap .i64 (x3 + 1)) (api_Packet.enc b0))) none) (
  R34_8 (C34 Γ γ57 γ58 γ31) Λ2 J 0 (api_Packet.enc b0)) := by kernel_rfl
abbrev X34 : CFun := C34 (callG SE good) (callT SE good 57 brokerref06_Sub_out) (callT SE good 58 brokerref01_Wanted_out) (callT SE good 31 brokerref06_Code_out)
theorem Cr34 : C34 (callG SE good) (callT SE good 57 brokerref06_Sub_out) (callT SE good 58 brokerref01_Wanted_out) (callT SE good 31 brokerref06_Code_out) = bindC (callG SE good) := by unfold C34; rw [updC_real (fun _ h => h), updC_real (fun _ h => h), updC_real (fun _ h => h)]
noncomputable abbrev Q34_13 (a0 : Int) (a1 : (List D)) : Res := R34_13 X34 (lam2 SE (callG SE good) (SE.hl 34) (SE.hr 34)) (J0 SE X34) a0 a1
noncomputable abbrev Q34_8 (a0 : Int) (a1 : (List D)) : Res := R34_8 X34 (lam2 SE (callG SE good) (SE.hl 34) (SE.hr 34)) (J0 SE X34) a0 a1
noncomputable abbrev Q34_2 (a0 : Int) (a1 : (List D)) : Res := R34_2 X34 (lam2 SE (callG SE good) (SE.hl 34) (SE.hr 34)) (J0 SE X34) a0 a1
theorem brokerref06_elements_l13_ok : ∀ (fu : Nat) (x6 : Int) (b0 : api_Packet), Le (Option.map brokerref06_elements_out (brokerref06_elements_l13 fu x6 b0)) (Q34_13 x6 (api_Packet.enc b0)) := by
  intro fu
  induction fu with
  | zero => intros; exact le_none
  | succ fu ih =>
    intro x6 b0
    refine Le.trans ?_ (le_of_eq ((lab_realC Cr34).trans (T34_13 _ _ _ _ _ _  x6 b0)).symm)
    unfold brokerref06_elements_l13
    refine le_cond (by simp only [EN]) (fun _ => ?_) (fun _ => ?_)
    · skip
      refine le_cond (by simp only [EN]) (fun _ => ?_) (fun _ => le_none)
      refine le_call (good := good) (fun y => ⟨y, rfl⟩) brokerref06_Code_inj (by first | (simp only [EN]; exact brokerref06_Code_ok (List.getD b0.Codes (Int.toNat x6) default)) | exact brokerref06_Code_ok (List.getD b0.Codes (Int.toNat x6) default)) (fun r2 _ => ?_)
      refine le_cond rfl (fun _ => ?_) (fun _ => ?_)
      · skip
        exact le_ret (by first | rfl | (simp only [EN, brokerref06_elements_out]; done) | (simp only [EN, brokerref06_elements_out]; rfl))
      · skip
        exact ih (IntKind.wrap .i64 (x6 + 1)) b0
    · skip
      exact le_ret (by first | rfl | (simp only [EN, brokerref06_elements_out]; done) | (simp only [EN, brokerref06_elements_out]; rfl))
theorem brokerref06_elements_l8_ok : ∀ (fu : Nat) (x5 : Int) (b0 : api_Packet), Le (Option.map brokerref06_elements_out (brokerref06_elements_l8 fu x5 b0)) (Q34_8 x5 (api_Packet.enc b0)) := by
  intro fu
  induction fu with
  | zero => intros; exact le_none
  | succ fu ih =>
    intro x5 b0
    refine Le.trans ?_ (le_of_eq ((lab_realC Cr34).trans (T34_8 _ _ _ _ _ _  x5 b0)).symm)
    unfold brokerref06_elements_l8
    refine le_cond (by simp only [EN]) (fun _ => ?_) (fun _ => ?_)
    · skip
      refine le_cond (by simp only [EN]) (fun _ => ?_) (fun _ => le_none)
      refine le_call (good := good) (fun y => ⟨y, rfl⟩) brokerref01_Wanted_inj (by first | (simp only [EN]; exact brokerref01_Wanted_ok (List.getD b0.Filters (Int.toNat x5) default)) | exact brokerref01_Wanted_ok (List.getD b0.Filters (Int.toNat x5) default)) (fun r1 _ => ?_)
      refine le_cond rfl (fun _ => ?_) (fun _ => ?_)
      · skip
        exact le_ret (by first | rfl | (simp only [EN, brokerref06_elements_out]; done) | (simp only [EN, brokerref06_elements_out]; rfl))
      · skip
        exact ih (IntKind.wrap .i64 (x5 + 1)) b0
    · skip
      exact brokerref06_elements_l13_ok fuel 0 b0
theorem brokerref06_elements_l2_ok : ∀ (fu : Nat) (x3 : Int) (b0 : api_Packet), Le (Option.map brokerref06_elements_out (brokerref06_elements_l2 fu x3 b0)) (Q34_2 x3 (api_Packet.enc b0)) := by
  intro fu
  induction fu with
  | zero => intros; exact le_none
  | succ fu ih =>
    intro x3 b0
    refine Le.trans ?_ (le_of_eq ((lab_realC Cr34).trans (T34_2 _ _ _ _ _ _  x3 b0)).symm)
    unfold brokerref06_elements_l2
    refine le_cond (by simp only [EN]) (fun _ => ?_) (fun _ => ?_)
    · skip
      refine le_cond (by simp only [EN]) (fun _ => ?_) (fun _ => le_none)
      refine le_call (good := good) (fun y => ⟨y, rfl⟩) brokerref06_Sub_inj (by first | (simp only [EN]; exact brokerref06_Sub_ok (List.getD b0.Subs (Int.toNat x3) default)) | exact brokerref06_Sub_ok (List.getD b0.Subs (Int.toNat x3) default)) (fun r0 _ => ?_)
      refine le_cond rfl (fun _ => ?_) (fun _ => ?_)
      · skip
        exact le_ret (by first | rfl | (simp only [EN, brokerref06_elements_out]; done) | (simp only [EN, brokerref06_elements_out]; rfl))
      · skip
        exact ih (IntKind.wrap .i64 (x3 + 1)) b0
    · skip
      exact brokerref06_elements_l8_ok fuel 0 b0
theorem brokerref06_elements_ok (p0 : api_Packet) : Le (Option.map brokerref06_elements_out (brokerref06_elements p0)) (callW SE 34 [api_Packet.av p0] [] []) := by
  refine le_bodyC Cr34 ?_
  refine Le.trans ?_ (le_of_eq (T34 _ _ _ _ _ _  p0).symm)
  unfold brokerref06_elements
  exact brokerref06_elements_l2_ok fuel 0 p0
def C19 (Γ : Fun) (γ28 : Gm (api_Packet)) (γ27 : Gm (Bool)) (γ29 : Gm (Int)) (γ30 : Gm (Int)) (γ31 : Gm (Bool)) (γ32 : Gm (Int)) (γ33 : Gm (Int)) (γ34 : Gm (Int)) : CFun := updC (updC (updC (updC (updC (updC (updC (updC (bindC Γ) 28 brokerref06_Used_out γ28) 27 brokerref06_Same_out γ27) 29 brokerref06_connect_out γ29) 30 brokerref06_publish_out γ30) 31 brokerref06_Code_out γ31) 32 brokerref06_ident_out γ32) 33 brokerref06_count_out γ33) 34 brokerref06_elements_out γ34
def R19_20 (C : CFun) (Λ2 J : Lam) (a0 : (List D)) : Res := lab SE C Λ2 J 19 0 [1, 1, 1, 1, 1, 1, 1, 1, 1, 0] (stoOf [(1, .ptr 1000000000 0)] [⟨39, (List.map AV.d a0)⟩] [] [] [])
def R19_17 (C : CFun) (Λ2 J : Lam) (a0 : (List D)) : Res := lab SE C Λ2 J 19 0 [1, 1, 1, 1, 1, 1, 1, 0] (stoOf [(1, .ptr 1000000000 0)] [⟨39, (List.map AV.d a0)⟩] [] [] [])
def R19_15 (C : CFun) (Λ2 J : Lam) (a0 : (List D)) : Res := lab SE C Λ2 J 19 0 [1, 1, 1, 1, 1, 1, 0, 0] (stoOf [(1, .ptr 1000000000 0)] [⟨39, (List.map AV.d a0)⟩] [] [] [])
def R19_3 (C : CFun) (Λ2 J : Lam) (a0 : (List D)) : Res := lab SE C Λ2 J 19 0 [1, 1, 0, 0] (stoOf [(1, .ptr 1000000000 0)] [⟨39, (List.map AV.d a0)⟩] [] [] [])
theorem T19 (Γ : Fun) (γ28 : Gm (api_Packet)) (γ27 : Gm (Bool)) (γ29 : Gm (Int)) (γ30 : Gm (Int)) (γ31 : Gm (Bool)) (γ32 : Gm (Int)) (γ33 : Gm (Int)) (γ34 : Gm (Int)) (Λ2 J : Lam) (p0 : api_Packet) : bodyC SE (C19 Γ γ28 γ27 γ29 γ30 γ31 γ32 γ33 γ34) Λ2 J 19 [api_Packet.av p0] [] [] =
  cond (decide (p0.Kind < 1)) (
   (some (.ret [.d (.int .i64 10)] [] []))) (
  cond (decide (p0.Kind > 14)) (
   (some (.ret [.d (.int .i64 10)] [] []))) (
  R19_3 (C19 Γ γ28 γ27 γ29 γ30 γ31 γ32 γ33 γ34) Λ2 J (api_Packet.enc p0))) := by kernel_rfl
theorem T19_20 (Γ : Fun) (γ28 : Gm (api_Packet)) (γ27 : Gm (Bool)) (γ29 : Gm (Int)) (γ30 : Gm (Int)) (γ31 : Gm (Bool)) (γ32 : Gm (Int)) (γ33 : Gm (Int)) (γ34 : Gm (Int)) (Λ2 J : Lam) (b0 : api_Packet) : labU SE (C19 Γ γ28 γ27 γ29 γ30 γ31 γ32 γ33 γ34) Λ2 J 19 0 [1, 1, 1, 1, 1, 1, 1, 1, 1, 0] (stoOf [(1, .ptr 1000000000 0)] [⟨39, (List.map AV.d (api_Packet.enc b0))⟩] [] [] []) =
  γ33 [.d (.int .i64 (IntKind.wrap .i64 ((IntKind.wrap .i64 ((List.length (List.map api_Sub.enc b0.Subs) : Int) + (List.length (List.map encS b0.Filters) : Int))) + (List.length (List.map (encI .i64) b0.Codes) : Int))))] [] [] fun r7 =>
  cond (r7 != 0) (
   (some (.ret [.d (.int .i64 r7)] [] []))) (
  γ34 [api_Packet.av b0] [] [] fun r8 =>
  (some (.ret [.d (.int .i64 r8)] [] []))) := by kernel_rfl
theorem T19_17 (Γ : Fun) (γ28 : Gm (api_Packet)) (γ27 : Gm (Bool)) (γ29 : Gm (Int)) (γ30 : Gm (Int)) (γ31 : Gm (Bool)) (γ32 : Gm (Int)) (γ33 : Gm (Int)) (γ34 : Gm (Int)) (Λ2 J : Lam) (b0 : api_Packet) : labU SE (C19 Γ γ28 γ27 γ29 γ30 γ31 γ32 γ33 γ34) Λ2 J 19 0 [1, 1, 1, 1, 1, 1, 1, 0] (stoOf [(1, .ptr 1000000000 0)] [⟨39, (List.map AV.d (api_Packet.enc b0))⟩] [] [] []) =
  γ32 [.d (.int .i64 b0.ID)] [] [] fun r6 =>
  cond (r6 != 0) (
   (some (.ret [.d (.int .i64 r6)] [] []))) (
  cond (decide (b0.Kind ≤ 7)) (
   (some (.ret [.d (.int .i64 r6)] [] []))) (
  R19_20 (C19 Γ γ28 γ27 γ29 γ30 γ31 γ32 γ33 γ34) Λ2 J (api_Packet.enc b0))) := by kernel_rfl
theorem T19_15 (Γ : Fun) (γ28 : Gm (api_Packet)) (γ27 : Gm (Bool)) (γ29 : Gm (Int)) (γ30 : Gm (Int)) (γ31 : Gm (Bool)) (γ32 : Gm (Int)) (γ33 : Gm (Int)) (γ34 : Gm (Int)) (Λ2 J : Lam) (b0 : api_Packet) : labU SE (C19 Γ γ28 γ27 γ29 γ30 γ31 γ32 γ33 γ34) Λ2 J 19 0 [1, 1, 1, 1, 1, 1, 0, 0] (stoOf [(1, .ptr 1000000000 0)] [⟨39, (List.map AV.d (api_Packet.enc b0))⟩] [] [] []) =
  cond (b0.Kind == 12) (
   (some (.ret [.d (.int .i64 0)] [] []))) (
  cond (b0.Kind == 13) (
   (some (.ret [.d (.int .i64 0)] [] []))) (
  R19_17 (C19 Γ γ28 γ27 γ29 γ30 γ31 γ32 γ33 γ34) Λ2 J (api_Packet.enc b0))) := by kernel_rfl
theorem T19_3 (Γ : Fun) (γ28 : Gm (api_Packet)) (γ27 : Gm (Bool)) (γ29 : Gm (Int)) (γ30 : Gm (Int)) (γ31 : Gm (Bool)) (γ32 : Gm (Int)) (γ33 : Gm (Int)) (γ34 : Gm (Int)) (Λ2 J : Lam) (b0 : api_Packet) : labU SE (C19 Γ γ28 γ27 γ29 γ30 γ31 γ32 γ33 γ34) Λ2 J 19 0 [1, 1, 0, 0] (stoOf [(1, .ptr 1000000000 0)] [⟨39, (List.map AV.d (api_Packet.enc b0))⟩] [] [] []) =
  γ28 [api_Packet.av b0] [] [] fun r0 =>
  γ27 [api_Packet.av b0, api_Packet.av r0] [] [] fun r1 =>
  cond (!r1) (
   (some (.ret [.d (.int .i64 28)] [] []))) (
  cond (b0.Kind == 1) (
   γ29 [api_Packet.av b0] [] [] fun r2 =>
   (some (.ret [.d (.int .i64 r2)] [] []))) (
  cond (b0.Kind == 3) (
   γ30 [api_Packet.av b0] [] [] fun r3 =>
   (some (.ret [.d (.int .i64 r3)] [] []))) (
  cond (b0.Kind == 2) (
   γ31 [.d (.int .i64 b0.Code)] [] [] fun r4 =>
   cond (!r4) (
    (some (.ret [.d (.int .i64 1)] [] []))) (
   cond b0.Present (
    cond (b0.Code != 0) (
     (some (.ret [.d (.int .i64 28)] [] []))) (
    (some (.ret [.d (.int .i64 0)] [] [])))) (
   (some (.ret [.d (.int .i64 0)] [] []))))) (
  cond (b0.Kind == 14) (
   γ31 [.d (.int .i64 b0.Code)] [] [] fun r5 =>
   cond (!r5) (
    (some (.ret [.d (.int .i64 1)] [] []))) (
   cond b0.Present (
    cond (b0.Code != 0) (
     (some (.ret [.d (.int .i64 28)] [] []))) (
    (some (.ret [.d (.int .i64 0)] [] [])))) (
   (some (.ret [.d (.int .i64 0)] [] []))))) (
  R19_15 (C19 Γ γ28 γ27 γ29 γ30 γ31 γ32 γ33 γ34) Λ2 J (api_Packet.enc b0)))))) := by kernel_rfl
abbrev X19 : CFun := C19 (callG SE good) (callT SE good 28 brokerref06_Used_out) (callT SE good 27 brokerref06_Same_out) (callT SE good 29 brokerref06_connect_out) (callT SE good 30 brokerref06_publish_out) (callT SE good 31 brokerref06_Code_out) (callT SE good 32 brokerref06_ident_out) (callT SE good 33 brokerref06_count_out) (callT SE good 34 brokerref06_elements_out)
theorem Cr19 : C19 (callG SE good) (callT SE good 28 brokerref06_Used_out) (callT SE good 27 brokerref06_Same_out) (callT SE good 29 brokerref06_connect_out) (callT SE good 30 brokerref06_publish_out) (callT SE good 31 brokerref06_Code_out) (callT SE good 32 brokerref06_ident_out) (callT SE good 33 brokerref06_count_out) (callT SE good 34 brokerref06_elements_out) = bindC (callG SE good) := by unfold C19; rw [updC_real (fun _ h => h), updC_real (fun _ h => h), updC_real (fun _ h => h), updC_real (fun _ h => h), updC_real (fun _ h => h), updC_real (fun _ h => h), updC_real (fun _ h => h), updC_real (fun _ h => h)]
noncomputable abbrev Q19_20 (a0 : (List D)) : Res := R19_20 X19 (lam2 SE (callG SE good) (SE.hl 19) (SE.hr 19)) (J0 SE X19) a0
noncomputable abbrev Q19_17 (a0 : (List D)) : Res := R19_17 X19 (lam2 SE (callG SE good) (SE.hl 19) (SE.hr 19)) (J0 SE X19) a0
noncomputable abbrev Q19_15 (a0 : (List D)) : Res := R19_15 X19 (lam2 SE (callG SE good) (SE.hl 19) (SE.hr 19)) (J0 SE X19) a0
noncomputable abbrev Q19_3 (a0 : (List D)) : Res := R19_3 X19 (lam2 SE (callG SE good) (SE.hl 19) (SE.hr 19)) (J0 SE X19) a0
theorem brokerref06_Check_j20_ok (b0 : api_Packet) : Le (Option.map brokerref06_Check_out (brokerref06_Check_j20 b0)) (Q19_20 (api_Packet.enc b0)) := by
  refine Le.trans ?_ (le_of_eq ((lab_realC Cr19).trans (T19_20 _ _ _ _ _ _ _ _ _ _ _  b0)).symm)
  unfold brokerref06_Check_j20
  refine le_call (good := good) (fun y => ⟨y, rfl⟩) brokerref06_count_inj (by first | (simp only [EN]; exact brokerref06_count_ok ((IntKind.wrap .i64 ((IntKind.wrap .i64 ((List.length b0.Subs : Int) + (List.length b0.Filters : Int))) + (List.length b0.Codes : Int))))) | exact brokerref06_count_ok ((IntKind.wrap .i64 ((IntKind.wrap .i64 ((List.length b0.Subs : Int) + (List.length b0.Filters : Int))) + (List.length b0.Codes : Int))))) (fun r7 _ => ?_)
  refine le_cond rfl (fun _ => ?_) (fun _ => ?_)
  · skip
    exact le_ret (by first | rfl | (simp only [EN, brokerref06_Check_out]; done) | (simp only [EN, brokerref06_Check_out]; rfl))
  · skip
    refine le_call (good := good) (fun y => ⟨y, rfl⟩) brokerref06_elements_inj (brokerref06_elements_ok b0) (fun r8 _ => ?_)
    exact le_ret (by first | rfl | (simp only [EN, brokerref06_Check_out]; done) | (simp only [EN, brokerref06_Check_out]; rfl))
theorem brokerref06_Check_j17_ok (b0 : api_Packet) : Le (Option.map brokerref06_Check_out (brokerref06_Check_j17 b0)) (Q19_17 (api_Packet.enc b0)) := by
  refine Le.trans ?_ (le_of_eq ((lab_realC Cr19).trans (T19_17 _ _ _ _ _ _ _ _ _ _ _  b0)).symm)
  unfold brokerref06_Check_j17
  refine le_call (good := good) (fun y => ⟨y, rfl⟩) brokerref06_ident_inj (brokerref06_ident_ok b0.ID) (fun r6 _ => ?_)
  refine le_cond rfl (fun _ => ?_) (fun _ => ?_)
  · skip
    exact le_ret (by first | rfl | (simp only [EN, brokerref06_Check_out]; done) | (simp only [EN, brokerref06_Check_out]; rfl))
  · skip
    refine le_cond rfl (fun _ => ?_) (fun _ => ?_)
    · skip
      exact le_ret (by first | rfl | (simp only [EN, brokerref06_Check_out]; done) | (simp only [EN, brokerref06_Check_out]; rfl))
    · skip
      exact brokerref06_Check_j20_ok b0
theorem brokerref06_Check_j15_ok (b0 : api_Packet) : Le (Option.map brokerref06_Check_out (brokerref06_Check_j15 b0)) (Q19_15 (api_Packet.enc b0)) := by
  refine Le.trans ?_ (le_of_eq ((lab_realC Cr19).trans (T19_15 _ _ _ _ _ _ _ _ _ _ _  b0)).symm)
  unfold brokerref06_Check_j15
  refine le_cond rfl (fun _ => ?_) (fun _ => ?_)
  · skip
    exact le_ret (by first | rfl | (simp only [EN, brokerref06_Check_out]; done) | (simp only [EN, brokerref06_Check_out]; rfl))
  · skip
    refine le_cond rfl (fun _ => ?_) (fun _ => ?_)
    · skip
      exact le_ret (by first | rfl | (simp only [EN, brokerref06_Check_out]; done) | (simp only [EN, brokerref06_Check_out]; rfl))
    · skip
      exact brokerref06_Check_j17_ok b0
theorem brokerref06_Check_j3_ok (b0 : api_Packet) : Le (Option.map brokerref06_Check_out (brokerref06_Check_j3 b0)) (Q19_3 (api_Packet.enc b0)) := by
  refine Le.trans ?_ (le_of_eq ((lab_realC Cr19).trans (T19_3 _ _ _ _ _ _ _ _ _ _ _  b0)).symm)
  unfold brokerref06_Check_j3
  refine le_call (good := good) (fun y => ⟨y, rfl⟩) brokerref06_Used_inj (brokerref06_Used_ok b0) (fun r0 _ => ?_)
  refine le_call (good := good) (fun y => ⟨y, rfl⟩) brokerref06_Same_inj (brokerref06_Same_ok b0 r0) (fun r1 _ => ?_)
  refine le_cond rfl (fun _ => ?_) (fun _ => ?_)
  · skip
    exact le_ret (by first | rfl | (simp only [EN, brokerref06_Check_out]; done) | (simp only [EN, brokerref06_Check_out]; rfl))
  · skip
    refine le_cond rfl (fun _ => ?_) (fun _ => ?_)
    · skip
      refine le_call (good := good) (fun y => ⟨y, rfl⟩) brokerref06_connect_inj (brokerref06_connect_ok b0) (fun r2 _ => ?_)
      exact le_ret (by first | rfl | (simp only [EN, brokerref06_Check_out]; done) | (simp only [EN, brokerref06_Check_out]; rfl))
    · skip
      refine le_cond rfl (fun _ => ?_) (fun _ => ?_)
      · skip
        refine le_call (good := good) (fun y => ⟨y, rfl⟩) brokerref06_publish_inj (brokerref06_publish_ok b0) (fun r3 _ => ?_)
        exact le_ret (by first | rfl | (simp only [EN, brokerref06_Check_out]; done) | (simp only [EN, brokerref06_Check_out]; rfl))
      · skip
        refine le_cond rfl (fun _ => ?_) (fun _ => ?_)
        · skip
          refine le_call (good := good) (fun y => ⟨y, rfl⟩) brokerref06_Code_inj (brokerref06_Code_ok b0.Code) (fun r4 _ => ?_)
          refine le_cond rfl (fun _ => ?_) (fun _ => ?_)
          · skip
            exact le_ret (by first | rfl | (simp only [EN, brokerref06_Check_out]; done) | (simp only [EN, brokerref06_Check_out]; rfl))
          · skip
            refine le_cond rfl (fun _ => ?_) (fun _ => ?_)
            · skip
              refine le_cond rfl (fun _ => ?_) (fun _ => ?_)
              · skip
                exact le_ret (by first | rfl | (simp only [EN, brokerref06_Check_out]; done) | (simp only [EN, brokerref06_Check_out]; rfl))
              · skip
                exact le_ret (by first | rfl | (simp only [EN, brokerref06_Check_out]; done) | (simp only [EN, brokerref06_Check_out]; rfl))
            · skip
              exact le_ret (by first | rfl | (simp only [EN, brokerref06_Check_out]; done) | (simp only [EN, brokerref06_Check_out]; rfl))
        · skip
          refine le_cond rfl (fun _ => ?_) (fun _ => ?_)
          · skip
            refine le_call (good := good) (fun y => ⟨y, rfl⟩) brokerref06_Code_inj (brokerref06_Code_ok b0.Code) (fun r5 _ => ?_)
            refine le_cond rfl (fun _ => ?_) (fun _ => ?_)
            · skip
              exact le_ret (by first | rfl | (simp only [EN, brokerref06_Check_out]; done) | (simp only [EN, brokerref06_Check_out]; rfl))
            · skip
              refine le_cond rfl (fun _ => ?_) (fun _ => ?_)
              · skip
                refine le_cond rfl (fun _ => ?_) (fun _ => ?_)
                · skip
                  exact le_ret (by first | rfl | (simp only [EN, brokerref06_Check_out]; done) | (simp only [EN, brokerref06_Check_out]; rfl))
                · skip
                  exact le_ret (by first | rfl | (simp only [EN, brokerref06_Check_out]; done) | (simp only [EN, brokerref06_Check_out]; rfl))
              · skip
                exact le_ret (by first | rfl | (simp only [EN, brokerref06_Check_out]; done) | (simp only [EN, brokerref06_Check_out]; rfl))
          · skip
            exact brokerref06_Check_j15_ok b0
theorem brokerref06_Check_ok (p0 : api_Packet) : Le (Option.map brokerref06_Check_out (brokerref06_Check p0)) (callW SE 19 [api_Packet.av p0] [] []) := by
  refine le_bodyC Cr19 ?_
  refine Le.trans ?_ (le_of_eq (T19 _ _ _ _ _ _ _ _ _ _ _  p0).symm)
  unfold brokerref06_Check
  refine le_cond rfl (fun _ => ?_) (fun _ => ?_)
  · skip
    exact le_ret (by first | rfl | (simp only [EN, brokerref06_Check_out]; done) | (simp only [EN, brokerref06_Check_out]; rfl))
  · skip
    refine le_cond rfl (fun _ => ?_) (fun _ => ?_)
    · skip
      exact le_ret (by first | rfl | (simp only [EN, brokerref06_Check_out]; done) | (simp only [EN, brokerref06_Check_out]; rfl))
    · skip
      exact brokerref06_Check_j3_ok p0
def C35 (Γ : Fun)  : CFun := bindC Γ
theorem T35 (Γ : Fun)  (Λ2 J : Lam) (p0 : Int) : bodyC SE (C35 Γ) Λ2 J 35 [.d (.int .i64 p0)] [] [] =
  cond (decide (p0 ≥ 3)) (
   cond (decide (p0 ≤ 7)) (
    (some (.ret [.d (.bool true)] [] []))) (
   (some (.ret [.d (.bool (p0 == 14))] [] [])))) (
  (some (.ret [.d (.bool (p0 == 14))] [] []))) := by kernel_rfl
abbrev X35 : CFun := C35 (callG SE good)
theorem Cr35 : C35 (callG SE good) = bindC (callG SE good) := by unfold C35; rfl
theorem brokerref06_both_ok (p0 : Int) : Le (Option.map brokerref06_both_out (brokerref06_both p0)) (callW SE 35 [.d (.int .i64 p0)] [] []) := by
  refine le_bodyC Cr35 ?_
  refine Le.trans ?_ (le_of_eq (T35 _ _ _  p0).symm)
  unfold brokerref06_both
  refine le_cond rfl (fun _ => ?_) (fun _ => ?_)
  · skip
    refine le_cond rfl (fun _ => ?_) (fun _ => ?_)
    · skip
      exact le_ret (by first | rfl | (simp only [EN, brokerref06_both_out]; done) | (simp only [EN, brokerref06_both_out]; rfl))
    · skip
      exact le_ret (by first | rfl | (simp only [EN, brokerref06_both_out]; done) | (simp only [EN, brokerref06_both_out]; rfl))
  · skip
    exact le_ret (by first | rfl | (simp only [EN, brokerref06_both_out]; done) | (simp only [EN, brokerref06_both_out]; rfl))
def C20 (Γ : Fun) (γ35 : Gm (Bool)) : CFun := updC (bindC Γ) 35 brokerref06_both_out γ35
theorem T20 (Γ : Fun) (γ35 : Gm (Bool)) (Λ2 J : Lam) (p0 : Int) : bodyC SE (C20 Γ γ35) Λ2 J 20 [.d (.int .i64 p0)] [] [] =
  γ35 [.d (.int .i64 p0)] [] [] fun r0 =>
  cond r0 (
   (some (.ret [.d (.bool true)] [] []))) (
  cond (p0 == 1) (
   (some (.ret [.d (.bool true)] [] []))) (
  cond (p0 == 8) (
   (some (.ret [.d (.bool true)] [] []))) (
  cond (p0 == 10) (
   (some (.ret [.d (.bool true)] [] []))) (
  (some (.ret [.d (.bool (p0 == 12))] [] [])))))) := by kernel_rfl
abbrev X20 : CFun := C20 (callG SE good) (callT SE good 35 brokerref06_both_out)
theorem Cr20 : C20 (callG SE good) (callT SE good 35 brokerref06_both_out) = bindC (callG SE good) := by unfold C20; rw [updC_real (fun _ h => h)]
theorem brokerref06_Client_ok (p0 : Int) : Le (Option.map brokerref06_Client_out (brokerref06_Client p0)) (callW SE 20 [.d (.int .i64 p0)] [] []) := by
  refine le_bodyC Cr20 ?_
  refine Le.trans ?_ (le_of_eq (T20 _ _ _ _  p0).symm)
  unfold brokerref06_Client
  refine le_call (good := good) (fun y => ⟨y, rfl⟩) brokerref06_both_inj (brokerref06_both_ok p0) (fun r0 _ => ?_)
  refine le_cond rfl (fun _ => ?_) (fun _ => ?_)
  · skip
    exact le_ret (by first | rfl | (simp only [EN, brokerref06_Client_out]; done) | (simp only [EN, brokerref06_Client_out]; rfl))
  · skip
    refine le_cond rfl (fun _ => ?_) (fun _ => ?_)
    · skip
      exact le_ret (by first | rfl | (simp only [EN, brokerref06_Client_out]; done) | (simp only [EN, brokerref06_Client_out]; rfl))
    · skip
      refine le_cond rfl (fun _ => ?_) (fun _ => ?_)
      · skip
        exact le_ret (by first | rfl | (simp only [EN, brokerref06_Client_out]; done) | (simp only [EN, brokerref06_Client_out]; rfl))
      · skip
        refine le_cond rfl (fun _ => ?_) (fun _ => ?_)
        · skip
          exact le_ret (by first | rfl | (simp only [EN, brokerref06_Client_out]; done) | (simp only [EN, brokerref06_Client_out]; rfl))
        · skip
          exact le_ret (by first | rfl | (simp only [EN, brokerref06_Client_out]; done) | (simp only [EN, brokerref06_Client_out]; rfl))
def C16 (Γ : Fun) (γ19 : Gm (Int)) (γ20 : Gm (Bool)) : CFun := updC (updC (bindC Γ) 19 brokerref06_Check_out γ19) 20 brokerref06_Client_out γ20
def R16_15 (C : CFun) (Λ2 J : Lam) (a0 : (List D)) (a1 : (List D)) (a2 : (List D)) : Res := lab SE C Λ2 J 16 0 [1, 1, 1, 1, 1, 1, 1, 0, 0] (stoOf [(3, .ptr 1000000000 0), (4, .ptr 1000000001 0), (6, .ptr 1000000002 0)] [⟨23, (List.map AV.d a0)⟩, ⟨39, (List.map AV.d a1)⟩, ⟨23, (List.map AV.d a2)⟩] [] [] [])
def R16_8 (C : CFun) (Λ2 J : Lam) (a0 : Int) (a1 : (List D)) (a2 : (List D)) (a3 : (List D)) : Res := lab SE C Λ2 J 16 0 [1, 1, 1, 1, 1, 0] (stoOf [(2, .d (.int .i64 a0)), (3, .ptr 1000000000 0), (4, .ptr 1000000001 0), (6, .ptr 1000000002 0)] [⟨23, (List.map AV.d a1)⟩, ⟨39, (List.map AV.d a2)⟩, ⟨23, (List.map AV.d a3)⟩] [] [] [])
theorem T16 (Γ : Fun) (γ19 : Gm (Int)) (γ20 : Gm (Bool)) (Λ2 J : Lam) (p0 : api_Conn) (p1 : api_Packet) (p2 : Int) : bodyC SE (C16 Γ γ19 γ20) Λ2 J 16 [api_Conn.av p0, api_Packet.av p1, .d (.int .i64 p2)] [] [] =
  cond (p0.State == 2) (
   (some (.ret [api_Conn.av (api_Conn.mk 0 0 ([] : Str) ([] : Str) 0 0 false), .d (.int .i64 21)] [] []))) (
  γ19 [api_Packet.av p1] [] [] fun r0 =>
  cond (r0 != 0) (
   (some (.ret [api_Conn.av (api_Conn.mk 0 0 ([] : Str) ([] : Str) 0 0 false), .d (.int .i64 r0)] [] []))) (
  γ20 [.d (.int .i64 p1.Kind)] [] [] fun r1 =>
  cond (!r1) (
   (some (.ret [api_Conn.av (api_Conn.mk 0 0 ([] : Str) ([] : Str) 0 0 false), .d (.int .i64 23)] [] []))) (
  cond ((p0.State == 0) != (p1.Kind == 1)) (
   (some (.ret [api_Conn.av (api_Conn.mk 0 0 ([] : Str) ([] : Str) 0 0 false), .d (.int .i64 23)] [] []))) (
  R16_8 (C16 Γ γ19 γ20) Λ2 J p2 (api_Conn.enc p0) (api_Packet.enc p1) ((api_Conn.enc (api_Conn.mk 0 0 ([] : Str) ([] : Str) 0 0 false))))))) := by kernel_rfl
theorem T16_15 (Γ : Fun) (γ19 : Gm (Int)) (γ20 : Gm (Bool)) (Λ2 J : Lam) (b0 : api_Conn) (b1 : api_Packet) (b2 : api_Conn) : labU SE (C16 Γ γ19 γ20) Λ2 J 16 0 [1, 1, 1, 1, 1, 1, 1, 0, 0] (stoOf [(3, .ptr 1000000000 0), (4, .ptr 1000000001 0), (6, .ptr 1000000002 0)] [⟨23, (List.map AV.d (api_Conn.enc b0))⟩, ⟨39, (List.map AV.d (api_Packet.enc b1))⟩, ⟨23, (List.map AV.d (api_Conn.enc b2))⟩] [] [] []) =
  cond (b1.Kind == 14) (
   (some (.ret [api_Conn.av (api_Conn.mk b0.ID 2 b0.Client b0.User b0.Keep b0.Last b0.Clean), .d (.int .i64 0)] [] []))) (
  (some (.ret [api_Conn.av b0, .d (.int .i64 0)] [] []))) := by kernel_rfl
theorem T16_8 (Γ : Fun) (γ19 : Gm (Int)) (γ20 : Gm (Bool)) (Λ2 J : Lam) (x2 : Int) (b0 : api_Conn) (b1 : api_Packet) (b2 : api_Conn) : labU SE (C16 Γ γ19 γ20) Λ2 J 16 0 [1, 1, 1, 1, 1, 0] (stoOf [(2, .d (.int .i64 x2)), (3, .ptr 1000000000 0), (4, .ptr 1000000001 0), (6, .ptr 1000000002 0)] [⟨23, (List.map AV.d (api_Conn.enc b0))⟩, ⟨39, (List.map AV.d (api_Packet.enc b1))⟩, ⟨23, (List.map AV.d (api_Conn.enc b2))⟩] [] [] []) =
  cond (b1.Kind == 1) (
   R16_15 (C16 Γ γ19 γ20) Λ2 J (api_Conn.enc (api_Conn.mk b0.ID 1 b1.Client b1.User b1.Keep x2 b1.Clean)) (api_Packet.enc b1) (api_Conn.enc b2)) (
  R16_15 (C16 Γ γ19 γ20) Λ2 J (api_Conn.enc (api_Conn.mk b0.ID b0.State b0.Client b0.User b0.Keep x2 b0.Clean)) (api_Packet.enc b1) (api_Conn.enc b2)) := by kernel_rfl
abbrev X16 : CFun := C16 (callG SE good) (callT SE good 19 brokerref06_Check_out) (callT SE good 20 brokerref06_Client_out)
theorem Cr16 : C16 (callG SE good) (callT SE good 19 brokerref06_Check_out) (callT SE good 20 brokerref06_Client_out) = bindC (callG SE good) := by unfold C16; rw [updC_real (fun _ h => h), updC_real (fun _ h => h)]
noncomputable abbrev Q16_15 (a0 : (List D)) (a1 : (List D)) (a2 : (List D)) : Res := R16_15 X16 (lam2 SE (callG SE good) (SE.hl 16) (SE.hr 16)) (J0 SE X16) a0 a1 a2
noncomputable abbrev Q16_8 (a0 : Int) (a1 : (List D)) (a2 : (List D)) (a3 : (List D)) : Res := R16_8 X16 (lam2 SE (callG SE good) (SE.hl 16) (SE.hr 16)) (J0 SE X16) a0 a1 a2 a3
theorem brokerref49_Receive_j15_ok (b0 : api_Conn) (b1 : api_Packet) (b2 : api_Conn) : Le (Option.map brokerref49_Receive_out (brokerref49_Receive_j15 b0 b1 b2)) (Q16_15 (api_Conn.enc b0) (api_Packet.enc b1) (api_Conn.enc b2)) := by
  refine Le.trans ?_ (le_of_eq ((lab_realC Cr16).trans (T16_15 _ _ _ _ _  b0 b1 b2)).symm)
  unfold brokerref49_Receive_j15
  refine le_cond rfl (fun _ => ?_) (fun _ => ?_)
  · skip
    exact le_ret (by first | rfl | (simp only [EN, brokerref49_Receive_out]; done) | (simp only [EN, brokerref49_Receive_out]; rfl))
  · skip
    exact le_ret (by first | rfl | (simp only [EN, brokerref49_Receive_out]; done) | (simp only [EN, brokerref49_Receive_out]; rfl))
theorem brokerref49_Receive_j8_ok (x2 : Int) (b0 : api_Conn) (b1 : api_Packet) (b2 : api_Conn) : Le (Option.map brokerref49_Receive_out (brokerref49_Receive_j8 x2 b0 b1 b2)) (Q16_8 x2 (api_Conn.enc b0) (api_Packet.enc b1) (api_Conn.enc b2)) := by
  refine Le.trans ?_ (le_of_eq ((lab_realC Cr16).trans (T16_8 _ _ _ _ _  x2 b0 b1 b2)).symm)
  unfold brokerref49_Receive_j8
  refine le_cond rfl (fun _ => ?_) (fun _ => ?_)
  · skip
    exact brokerref49_Receive_j15_ok (api_Conn.mk b0.ID 1 b1.Client b1.User b1.Keep x2 b1.Clean) b1 b2
  · skip
    exact brokerref49_Receive_j15_ok (api_Conn.mk b0.ID b0.State b0.Client b0.User b0.Keep x2 b0.Clean) b1 b2
theorem brokerref49_Receive_ok (p0 : api_Conn) (p1 : api_Packet) (p2 : Int) : Le (Option.map brokerref49_Receive_out (brokerref49_Receive p0 p1 p2)) (callW SE 16 [api_Conn.av p0, api_Packet.av p1, .d (.int .i64 p2)] [] []) := by
  refine le_bodyC Cr16 ?_
  refine Le.trans ?_ (le_of_eq (T16 _ _ _ _ _  p0 p1 p2).symm)
  unfold brokerref49_Receive
  refine le_cond rfl (fun _ => ?_) (fun _ => ?_)
  · skip
    exact le_ret (by first | rfl | (simp only [EN, brokerref49_Receive_out]; done) | (simp only [EN, brokerref49_Receive_out]; rfl))
  · skip
    refine le_call (good := good) (fun y => ⟨y, rfl⟩) brokerref06_Check_inj (brokerref06_Check_ok p1) (fun r0 _ => ?_)
    refine le_cond rfl (fun _ => ?_) (fun _ => ?_)
    · skip
      exact le_ret (by first | rfl | (simp only [EN, brokerref49_Receive_out]; done) | (simp only [EN, brokerref49_Receive_out]; rfl))
    · skip
      refine le_call (good := good) (fun y => ⟨y, rfl⟩) brokerref06_Client_inj (brokerref06_Client_ok p1.Kind) (fun r1 _ => ?_)
      refine le_cond rfl (fun _ => ?_) (fun _ => ?_)
      · skip
        exact le_ret (by first | rfl | (simp only [EN, brokerref49_Receive_out]; done) | (simp only [EN, brokerref49_Receive_out]; rfl))
      · skip
        refine le_cond rfl (fun _ => ?_) (fun _ => ?_)
        · skip
          exact le_ret (by first | rfl | (simp only [EN, brokerref49_Receive_out]; done) | (simp only [EN, brokerref49_Receive_out]; rfl))
        · skip
          first | (simp only [EN]; exact brokerref49_Receive_j8_ok p2 p0 p1 ((api_Conn.mk 0 0 ([] : Str) ([] : Str) 0 0 false))) | exact brokerref49_Receive_j8_ok p2 p0 p1 ((api_Conn.mk 0 0 ([] : Str) ([] : Str) 0 0 false))
def C4 (Γ : Fun) (γ14 : Gm (Bool)) (γ7 : Gm (Bool)) (γ15 : Gm (api_Conn × Int)) (γ16 : Gm (api_Conn × Int)) : CFun := updC (updC (updC (updC (bindC Γ) 14 brokerlaw49_light_out γ14) 7 brokerlaw49_awake_out γ7) 15 conn_Receive_out γ15) 16 brokerref49_Receive_out γ16
theorem T4 (Γ : Fun) (γ14 : Gm (Bool)) (γ7 : Gm (Bool)) (γ15 : Gm (api_Conn × Int)) (γ16 : Gm (api_Conn × Int)) (Λ2 J : Lam) (p0 : api_Conn) (p1 : api_Packet) (p2 : Int) : bodyC SE (C4 Γ γ14 γ7 γ15 γ16) Λ2 J 4 [api_Conn.av p0, api_Packet.av p1, .d (.int .i64 p2)] [] [] =
  γ14 [.d (.sl api_Packet.ks (List.map api_Packet.enc [p1]))] [] [] fun r0 =>
  cond (!r0) (
   γ7 [] [] [] fun r1 =>
   (some (.ret [.d (.bool r1)] [] []))) (
  γ15 [api_Conn.av p0, api_Packet.av p1, .d (.int .i64 p2)] [] [] fun r2 =>
  γ16 [api_Conn.av p0, api_Packet.av p1, .d (.int .i64 p2)] [] [] fun r3 =>
  γ7 [] [] [] fun r4 =>
  cond r4 (
   cond ((r2.1.ID == r3.1.ID) && ((r2.1.State == r3.1.State) && ((r2.1.Client == r3.1.Client) && ((r2.1.User == r3.1.User) && ((r2.1.Keep == r3.1.Keep) && ((r2.1.Last == r3.1.Last) && ((r2.1.Clean == r3.1.Clean) && true))))))) (
    (some (.ret [.d (.bool (r2.2 == r3.2))] [] []))) (
   (some (.ret [.d (.bool false)] [] [])))) (
  (some (.ret [.d (.bool false)] [] [])))) := by kernel_rfl
abbrev X4 : CFun := C4 (callG SE good) (callT SE good 14 brokerlaw49_light_out) (callT SE good 7 brokerlaw49_awake_out) (callT SE good 15 conn_Receive_out) (callT SE good 16 brokerref49_Receive_out)
theorem Cr4 : C4 (callG SE good) (callT SE good 14 brokerlaw49_light_out) (callT SE good 7 brokerlaw49_awake_out) (callT SE good 15 conn_Receive_out) (callT SE good 16 brokerref49_Receive_out) = bindC (callG SE good) := by unfold C4; rw [updC_real (fun _ h => h), updC_real (fun _ h => h), updC_real (fun _ h => h), updC_real (fun _ h => h)]
theorem brokerlaw49_ConnReceives_ok (p0 : api_Conn) (p1 : api_Packet) (p2 : Int) : Le (Option.map brokerlaw49_ConnReceives_out (brokerlaw49_ConnReceives p0 p1 p2)) (callW SE 4 [api_Conn.av p0, api_Packet.av p1, .d (.int .i64 p2)] [] []) := by
  refine le_bodyC Cr4 ?_
  refine Le.trans ?_ (le_of_eq (T4 _ _ _ _ _ _ _  p0 p1 p2).symm)
  unfold brokerlaw49_ConnReceives
  refine le_call (good := good) (fun y => ⟨y, rfl⟩) brokerlaw49_light_inj (brokerlaw49_light_ok [p1]) (fun r0 _ => ?_)
  refine le_cond rfl (fun _ => ?_) (fun _ => ?_)
  · skip
    refine le_call (good := good) (fun y => ⟨y, rfl⟩) brokerlaw49_awake_inj (brokerlaw49_awake_ok) (fun r1 _ => ?_)
    exact le_ret (by first | rfl | (simp only [EN, brokerlaw49_ConnReceives_out]; done) | (simp only [EN, brokerlaw49_ConnReceives_out]; rfl))
  · skip
    refine le_call (good := good) (fun y => ⟨y, rfl⟩) conn_Receive_inj (conn_Receive_ok p0 p1 p2) (fun r2 _ => ?_)
    refine le_call (good := good) (fun y => ⟨y, rfl⟩) brokerref49_Receive_inj (brokerref49_Receive_ok p0 p1 p2) (fun r3 _ => ?_)
    refine le_call (good := good) (fun y => ⟨y, rfl⟩) brokerlaw49_awake_inj (brokerlaw49_awake_ok) (fun r4 _ => ?_)
    refine le_cond rfl (fun _ => ?_) (fun _ => ?_)
    · skip
      refine le_cond rfl (fun _ => ?_) (fun _ => ?_)
      · skip
        exact le_ret (by first | rfl | (simp only [EN, brokerlaw49_ConnReceives_out]; done) | (simp only [EN, brokerlaw49_ConnReceives_out]; rfl))
      · skip
        exact le_ret (by first | rfl | (simp only [EN, brokerlaw49_ConnReceives_out]; done) | (simp only [EN, brokerlaw49_ConnReceives_out]; rfl))
    · skip
      exact le_ret (by first | rfl | (simp only [EN, brokerlaw49_ConnReceives_out]; done) | (simp only [EN, brokerlaw49_ConnReceives_out]; rfl))
def C18 (Γ : Fun)  : CFun := bindC Γ
theorem T18 (Γ : Fun)  (Λ2 J : Lam) (p0 : api_Conn) (p1 : Int) : bodyC SE (C18 Γ) Λ2 J 18 [api_Conn.av p0, .d (.int .i64 p1)] [] [] =
  cond (p0.State == 0) (
   (some (.ret [.d (.bool (decide ((IntKind.wrap .i64 (p1 - p0.Last)) > 10)))] [] []))) (
  cond (p0.State == 1) (
   cond (decide (p0.Keep > 0)) (
    (some (.ret [.d (.bool (decide ((IntKind.wrap .i64 (p1 - p0.Last)) > (IntKind.wrap .i64 (p0.Keep + (IntKind.wrap .i64 (Int.tdiv p0.Keep 2)))))))] [] []))) (
   (some (.ret [.d (.bool false)] [] [])))) (
  (some (.ret [.d (.bool false)] [] [])))) := by kernel_rfl
abbrev X18 : CFun := C18 (callG SE good)
theorem Cr18 : C18 (callG SE good) = bindC (callG SE good) := by unfold C18; rfl
theorem brokerref49_Expired_ok (p0 : api_Conn) (p1 : Int) : Le (Option.map brokerref49_Expired_out (brokerref49_Expired p0 p1)) (callW SE 18 [api_Conn.av p0, .d (.int .i64 p1)] [] []) := by
  refine le_bodyC Cr18 ?_
  refine Le.trans ?_ (le_of_eq (T18 _ _ _  p0 p1).symm)
  unfold brokerref49_Expired
  refine le_cond rfl (fun _ => ?_) (fun _ => ?_)
  · skip
    exact le_ret (by first | rfl | (simp only [EN, brokerref49_Expired_out]; done) | (simp only [EN, brokerref49_Expired_out]; rfl))
  · skip
    refine le_cond rfl (fun _ => ?_) (fun _ => ?_)
    · skip
      refine le_cond rfl (fun _ => ?_) (fun _ => ?_)
      · skip
        exact le_ret (by first | rfl | (simp only [EN, brokerref49_Expired_out]; done) | (simp only [EN, brokerref49_Expired_out]; rfl))
      · skip
        exact le_ret (by first | rfl | (simp only [EN, brokerref49_Expired_out]; done) | (simp only [EN, brokerref49_Expired_out]; rfl))
    · skip
      exact le_ret (by first | rfl | (simp only [EN, brokerref49_Expired_out]; done) | (simp only [EN, brokerref49_Expired_out]; rfl))
def C5 (Γ : Fun) (γ9 : Gm (Int)) (γ7 : Gm (Bool)) (γ17 : Gm (Bool)) (γ18 : Gm (Bool)) : CFun := updC (updC (updC (updC (bindC Γ) 9 brokerref49_Check_out γ9) 7 brokerlaw49_awake_out γ7) 17 conn_Expired_out γ17) 18 brokerref49_Expired_out γ18
def R5_3 (C : CFun) (Λ2 J : Lam) (a0 : Int) (a1 : (List D)) : Res := lab SE C Λ2 J 5 0 [1, 1, 0] (stoOf [(1, .d (.int .i64 a0)), (2, .ptr 1000000000 0)] [⟨23, (List.map AV.d a1)⟩] [] [] [])
theorem T5 (Γ : Fun) (γ9 : Gm (Int)) (γ7 : Gm (Bool)) (γ17 : Gm (Bool)) (γ18 : Gm (Bool)) (Λ2 J : Lam) (p0 : api_Conn) (p1 : Int) : bodyC SE (C5 Γ γ9 γ7 γ17 γ18) Λ2 J 5 [api_Conn.av p0, .d (.int .i64 p1)] [] [] =
  γ9 [api_Conn.av p0] [] [] fun r0 =>
  cond (r0 != 0) (
   γ7 [] [] [] fun r1 =>
   (some (.ret [.d (.bool r1)] [] []))) (
  cond (decide (p1 < 0)) (
   γ7 [] [] [] fun r2 =>
   (some (.ret [.d (.bool r2)] [] []))) (
  cond (decide (p1 > 1099511627776)) (
   γ7 [] [] [] fun r3 =>
   (some (.ret [.d (.bool r3)] [] []))) (
  R5_3 (C5 Γ γ9 γ7 γ17 γ18) Λ2 J p1 (api_Conn.enc p0)))) := by kernel_rfl
theorem T5_3 (Γ : Fun) (γ9 : Gm (Int)) (γ7 : Gm (Bool)) (γ17 : Gm (Bool)) (γ18 : Gm (Bool)) (Λ2 J : Lam) (x1 : Int) (b0 : api_Conn) : labU SE (C5 Γ γ9 γ7 γ17 γ18) Λ2 J 5 0 [1, 1, 0] (stoOf [(1, .d (.int .i64 x1)), (2, .ptr 1000000000 0)] [⟨23, (List.map AV.d (api_Conn.enc b0))⟩] [] [] []) =
  γ7 [] [] [] fun r4 =>
  cond r4 (
   γ17 [api_Conn.av b0, .d (.int .i64 x1)] [] [] fun r5 =>
   γ18 [api_Conn.av b0, .d (.int .i64 x1)] [] [] fun r6 =>
   (some (.ret [.d (.bool (r5 == r6))] [] []))) (
  (some (.ret [.d (.bool false)] [] []))) := by kernel_rfl
abbrev X5 : CFun := C5 (callG SE good) (callT SE good 9 brokerref49_Check_out) (callT SE good 7 brokerlaw49_awake_out) (callT SE good 17 conn_Expired_out) (callT SE good 18 brokerref49_Expired_out)
theorem Cr5 : C5 (callG SE good) (callT SE good 9 brokerref49_Check_out) (callT SE good 7 brokerlaw49_awake_out) (callT SE good 17 conn_Expired_out) (callT SE good 18 brokerref49_Expired_out) = bindC (callG SE good) := by unfold C5; rw [updC_real (fun _ h => h), updC_real (fun _ h => h), updC_real (fun _ h => h), updC_real (fun _ h => h)]
noncomputable abbrev Q5_3 (a0 : Int) (a1 : (List D)) : Res := R5_3 X5 (lam2 SE (callG SE good) (SE.hl 5) (SE.hr 5)) (J0 SE X5) a0 a1
theorem brokerlaw49_ConnExpires_j3_ok (x1 : Int) (b0 : api_Conn) : Le (Option.map brokerlaw49_ConnExpires_out (brokerlaw49_ConnExpires_j3 x1 b0)) (Q5_3 x1 (api_Conn.enc b0)) := by
  refine Le.trans ?_ (le_of_eq ((lab_realC Cr5).trans (T5_3 _ _ _ _ _ _ _  x1 b0)).symm)
  unfold brokerlaw49_ConnExpires_j3
  refine le_call (good := good) (fun y => ⟨y, rfl⟩) brokerlaw49_awake_inj (brokerlaw49_awake_ok) (fun r4 _ => ?_)
  refine le_cond rfl (fun _ => ?_) (fun _ => ?_)
  · skip
    refine le_call (good := good) (fun y => ⟨y, rfl⟩) conn_Expired_inj (conn_Expired_ok b0 x1) (fun r5 _ => ?_)
    refine le_call (good := good) (fun y => ⟨y, rfl⟩) brokerref49_Expired_inj (brokerref49_Expired_ok b0 x1) (fun r6 _ => ?_)
    exact le_ret (by first | rfl | (simp only [EN, brokerlaw49_ConnExpires_out]; done) | (simp only [EN, brokerlaw49_ConnExpires_out]; rfl))
  · skip
    exact le_ret (by first | rfl | (simp only [EN, brokerlaw49_ConnExpires_out]; done) | (simp only [EN, brokerlaw49_ConnExpires_out]; rfl))
theorem brokerlaw49_ConnExpires_ok (p0 : api_Conn) (p1 : Int) : Le (Option.map brokerlaw49_ConnExpires_out (brokerlaw49_ConnExpires p0 p1)) (callW SE 5 [api_Conn.av p0, .d (.int .i64 p1)] [] []) := by
  refine le_bodyC Cr5 ?_
  refine Le.trans ?_ (le_of_eq (T5 _ _ _ _ _ _ _  p0 p1).symm)
  unfold brokerlaw49_ConnExpires
  refine le_call (good := good) (fun y => ⟨y, rfl⟩) brokerref49_Check_inj (brokerref49_Check_ok p0) (fun r0 _ => ?_)
  refine le_cond rfl (fun _ => ?_) (fun _ => ?_)
  · skip
    refine le_call (good := good) (fun y => ⟨y, rfl⟩) brokerlaw49_awake_inj (brokerlaw49_awake_ok) (fun r1 _ => ?_)
    exact le_ret (by first | rfl | (simp only [EN, brokerlaw49_ConnExpires_out]; done) | (simp only [EN, brokerlaw49_ConnExpires_out]; rfl))
  · skip
    refine le_cond rfl (fun _ => ?_) (fun _ => ?_)
    · skip
      refine le_call (good := good) (fun y => ⟨y, rfl⟩) brokerlaw49_awake_inj (brokerlaw49_awake_ok) (fun r2 _ => ?_)
      exact le_ret (by first | rfl | (simp only [EN, brokerlaw49_ConnExpires_out]; done) | (simp only [EN, brokerlaw49_ConnExpires_out]; rfl))
    · skip
      refine le_cond rfl (fun _ => ?_) (fun _ => ?_)
      · skip
        refine le_call (good := good) (fun y => ⟨y, rfl⟩) brokerlaw49_awake_inj (brokerlaw49_awake_ok) (fun r3 _ => ?_)
        exact le_ret (by first | rfl | (simp only [EN, brokerlaw49_ConnExpires_out]; done) | (simp only [EN, brokerlaw49_ConnExpires_out]; rfl))
      · skip
        exact brokerlaw49_ConnExpires_j3_ok p1 p0
def C6 (Γ : Fun) (γ14 : Gm (Bool)) (γ7 : Gm (Bool)) (γ12 : Gm (api_Conn)) (γ15 : Gm (api_Conn × Int)) (γ19 : Gm (Int)) (γ20 : Gm (Bool)) (γ8 : Gm (Int)) : CFun := updC (updC (updC (updC (updC (updC (updC (bindC Γ) 14 brokerlaw49_light_out γ14) 7 brokerlaw49_awake_out γ7) 12 conn_New_out γ12) 15 conn_Receive_out γ15) 19 brokerref06_Check_out γ19) 20 brokerref06_Client_out γ20) 8 conn_Check_out γ8
def R6_13 (C : CFun) (Λ2 J : Lam) (a0 : (List (List D))) (a1 : Int) (a2 : Int) (a3 : Int) (a4 : Bool) (a5 : (List (List D))) (a6 : Int) (a7 : Int) (a8 : Bool) (a9 : Bool) (a10 : (List (List D))) (a11 : Int) (a12 : (List D)) (a13 : Int) (a14 : Bool) (a15 : (List (List D))) (a16 : Int) (a17 : Int) (a18 : Bool) (a19 : Bool) (a20 : (List D)) (a21 : Int) (a22 : Bool) (a23 : (List D)) (a24 : (List D)) : Res := lab SE C Λ2 J 6 0 [1, 1, 1, 1, 1, 0, 1, 0, 0, 1, 0, 0, 1, 1, 1, 0] (stoOf [(0, .d (.sl api_Packet.ks a0)), (3, .ptr 1000000000 0), (4, .d (.int .i64 a1)), (6, .d (.int .i64 a2)), (7, .ptr 1000000001 0), (34, .d (.int .i64 a3)), (35, .d (.bool a4)), (36, .d (.sl api_Packet.ks a5)), (37, .d (.int .i64 a6)), (40, .d (.int .i64 a7)), (41, .d (.bool a8)), (42, .d (.bool a9)), (45, .d (.sl api_Packet.ks a10)), (46, .d (.int .i64 a11)), (48, .agg (List.map AV.d a12)), (49, .d (.int .i64 a13)), (50, .d (.bool a14)), (53, .d (.sl api_Packet.ks a15)), (54, .d (.int .i64 a16)), (57, .d (.int .i64 a17)), (58, .d (.bool a18)), (59, .d (.bool a19)), (62, .agg (List.map AV.d a20)), (63, .d (.int .i64 a21)), (64, .d (.bool a22))] [⟨23, (List.map AV.d a23)⟩, ⟨23, (List.map AV.d a24)⟩] [] [] [])
def R6_7 (C : CFun) (Λ2 J : Lam) (a0 : (List (List D))) (a1 : Int) (a2 : Bool) (a3 : Int) (a4 : (List D)) : Res := lab SE C Λ2 J 6 0 [1, 1, 1, 1, 1, 0, 1, 0] (stoOf [(0, .d (.sl api_Packet.ks a0)), (3, .ptr 1000000000 0), (4, .d (.int .i64 a1)), (5, .d (.bool a2)), (6, .d (.int .i64 a3))] [⟨23, (List.map AV.d a4)⟩] [] [] [])
theorem T6 (Γ : Fun) (γ14 : Gm (Bool)) (γ7 : Gm (Bool)) (γ12 : Gm (api_Conn)) (γ15 : Gm (api_Conn × Int)) (γ19 : Gm (Int)) (γ20 : Gm (Bool)) (γ8 : Gm (Int)) (Λ2 J : Lam) (p0 : (List api_Packet)) : bodyC SE (C6 Γ γ14 γ7 γ12 γ15 γ19 γ20 γ8) Λ2 J 6 [.d (.sl api_Packet.ks (List.map api_Packet.enc p0))] [] [] =
  γ14 [.d (.sl api_Packet.ks (List.map api_Packet.enc p0))] [] [] fun r0 =>
  cond (!r0) (
   γ7 [] [] [] fun r1 =>
   (some (.ret [.d (.bool r1)] [] []))) (
  γ12 [.d (.int .i64 1), .d (.int .i64 0)] [] [] fun r2 =>
  R6_7 (C6 Γ γ14 γ7 γ12 γ15 γ19 γ20 γ8) Λ2 J (List.map api_Packet.enc p0) 0 false 0 (api_Conn.enc r2)) := by kernel_rfl
theorem T6_13 (Γ : Fun) (γ14 : Gm (Bool)) (γ7 : Gm (Bool)) (γ12 : Gm (api_Conn)) (γ15 : Gm (api_Conn × Int)) (γ19 : Gm (Int)) (γ20 : Gm (Bool)) (γ8 : Gm (Int)) (Λ2 J : Lam) (x0 : (List api_Packet)) (x4 : Int) (x6 : Int) (x34 : Int) (x35 : Bool) (x36 : (List api_Packet)) (x37 : Int) (x40 : Int) (x41 : Bool) (x42 : Bool) (x45 : (List api_Packet)) (x46 : Int) (x48 : api_Packet) (x49 : Int) (x50 : Bool) (x53 : (List api_Packet)) (x54 : Int) (x57 : Int) (x58 : Bool) (x59 : Bool) (x62 : api_Conn) (x63 : Int) (x64 : Bool) (b0 : api_Conn) (b1 : api_Conn) : labU SE (C6 Γ γ14 γ7 γ12 γ15 γ19 γ20 γ8) Λ2 J 6 0 [1, 1, 1, 1, 1, 0, 1, 0, 0, 1, 0, 0, 1, 1, 1, 0] (stoOf [(0, .d (.sl api_Packet.ks (List.map api_Packet.enc x0))), (3, .ptr 1000000000 0), (4, .d (.int .i64 x4)), (6, .d (.int .i64 x6)), (7, .ptr 1000000001 0), (34, .d (.int .i64 x34)), (35, .d (.bool x35)), (36, .d (.sl api_Packet.ks (List.map api_Packet.enc x36))), (37, .d (.int .i64 x37)), (40, .d (.int .i64 x40)), (41, .d (.bool x41)), (42, .d (.bool x42)), (45, .d (.sl api_Packet.ks (List.map api_Packet.enc x45))), (46, .d (.int .i64 x46)), (48, .agg (List.map AV.d (api_Packet.enc x48))), (49, .d (.int .i64 x49)), (50, .d (.bool x50)), (53, .d (.sl api_Packet.ks (List.map api_Packet.enc x53))), (54, .d (.int .i64 x54)), (57, .d (.int .i64 x57)), (58, .d (.bool x58)), (59, .d (.bool x59)), (62, .agg (List.map AV.d (api_Conn.enc x62))), (63, .d (.int .i64 x63)), (64, .d (.bool x64))] [⟨23, (List.map AV.d (api_Conn.enc b0))⟩, ⟨23, (List.map AV.d (api_Conn.enc b1))⟩] [] [] []) =
  cond (decide (0 ≤ x6) && decide (x6 < (List.length (List.map api_Packet.enc x0) : Int))) (
   cond (((dInt (cellAt (elemAt (List.map api_Packet.enc x0) (Int.toNat x6)) 0)) == 14) != (b1.State == 2)) (
    (some (.ret [.d (.bool false)] [] []))) (
   R6_7 (C6 Γ γ14 γ7 γ12 γ15 γ19 γ20 γ8) Λ2 J (List.map api_Packet.enc x0) (IntKind.wrap .i64 (x4 + 1)) (((dInt (cellAt (elemAt (List.map api_Packet.enc x0) (Int.toNat x6)) 0)) == 14)) (IntKind.wrap .i64 (x6 + 1)) (api_Conn.enc b1))) none := by kernel_rfl
theorem T6_7 (Γ : Fun) (γ14 : Gm (Bool)) (γ7 : Gm (Bool)) (γ12 : Gm (api_Conn)) (γ15 : Gm (api_Conn × Int)) (γ19 : Gm (Int)) (γ20 : Gm (Bool)) (γ8 : Gm (Int)) (Λ2 J : Lam) (x0 : (List api_Packet)) (x4 : Int) (x5 : Bool) (x6 : Int) (b0 : api_Conn) : labU SE (C6 Γ γ14 γ7 γ12 γ15 γ19 γ20 γ8) Λ2 J 6 0 [1, 1, 1, 1, 1, 0, 1, 0] (stoOf [(0, .d (.sl api_Packet.ks (List.map api_Packet.enc x0))), (3, .ptr 1000000000 0), (4, .d (.int .i64 x4)), (5, .d (.bool x5)), (6, .d (.int .i64 x6))] [⟨23, (List.map AV.d (api_Conn.enc b0))⟩] [] [] []) =
  cond (decide (x6 < (List.length (List.map api_Packet.enc x0) : Int))) (
   cond (decide (0 ≤ x6) && decide (x6 < (List.length (List.map api_Packet.enc x0) : Int))) (
    γ15 [api_Conn.av b0, .agg [.d (.int .i64 (dInt (cellAt (elemAt (List.map api_Packet.enc x0) (Int.toNat x6)) 0))), .d (.int .i64 (dInt (cellAt (elemAt (List.map api_Packet.enc x0) (Int.toNat x6)) 1))), .d (.bool (dBool (cellAt (elemAt (List.map api_Packet.enc x0) (Int.toNat x6)) 2))), .d (.str (dStr (cellAt (elemAt (List.map api_Packet.enc x0) (Int.toNat x6)) 3))), .d (.str (dStr (cellAt (elemAt (List.map api_Packet.enc x0) (Int.toNat x6)) 4))), .d (.int .i64 (dInt (cellAt (elemAt (List.map api_Packet.enc x0) (Int.toNat x6)) 5))), .d (.bool (dBool (cellAt (elemAt (List.map api_Packet.enc x0) (Int.toNat x6)) 6))), .d (.int .i64 (dInt (cellAt (elemAt (List.map api_Packet.enc x0) (Int.toNat x6)) 7))), .d (.int .i64 (dInt (cellAt (elemAt (List.map api_Packet.enc x0) (Int.toNat x6)) 8))), .d (.str (dStr (cellAt (elemAt (List.map api_Packet.enc x0) (Int.toNat x6)) 9))), .d (.int .i64 (dInt (cellAt (elemAt (List.map api_Packet.enc x0) (Int.toNat x6)) 10))), .d (.sl api_Prop.ks (dSl (cellAt (elemAt (List.map api_Packet.enc x0) (Int.toNat x6)) 11))), .d (.str (dStr (cellAt (elemAt (List.map api_Packet.enc x0) (Int.toNat x6)) 12))), .d (.str (dStr (cellAt (elemAt (List.map api_Packet.enc x0) (Int.toNat x6)) 13))), .d (.bool (dBool (cellAt (elemAt (List.map api_Packet.enc x0) (Int.toNat x6)) 14))), .d (.int .i64 (dInt (cellAt (elemAt (List.map api_Packet.enc x0) (Int.toNat x6)) 15))), .d (.int .i64 (dInt (cellAt (elemAt (List.map api_Packet.enc x0) (Int.toNat x6)) 16))), .d (.int .i64 (dInt (cellAt (elemAt (List.map api_Packet.enc x0) (Int.toNat x6)) 17))), .d (.bool (dBool (cellAt (elemAt (List.map api_Packet.enc x0) (Int.toNat x6)) 18))), .d (.int .i64 (dInt (cellAt (elemAt (List.map api_Packet.enc x0) (Int.toNat x6)) 19))), .d (.str (dStr (cellAt (elemAt (List.map api_Packet.enc x0) (Int.toNat x6)) 20))), .d (.str (dStr (cellAt (elemAt (List.map api_Packet.enc x0) (Int.toNat x6)) 21))), .d (.int .i64 (dInt (cellAt (elemAt (List.map api_Packet.enc x0) (Int.toNat x6)) 22))), .d (.bool (dBool (cellAt (elemAt (List.map api_Packet.enc x0) (Int.toNat x6)) 23))), .d (.int .i64 (dInt (cellAt (elemAt (List.map api_Packet.enc x0) (Int.toNat x6)) 24))), .d (.int .i64 (dInt (cellAt (elemAt (List.map api_Packet.enc x0) (Int.toNat x6)) 25))), .d (.str (dStr (cellAt (elemAt (List.map api_Packet.enc x0) (Int.toNat x6)) 26))), .d (.int .i64 (dInt (cellAt (elemAt (List.map api_Packet.enc x0) (Int.toNat x6)) 27))), .d (.sl api_Prop.ks (dSl (cellAt (elemAt (List.map api_Packet.enc x0) (Int.toNat x6)) 28))), .d (.bool (dBool (cellAt (elemAt (List.map api_Packet.enc x0) (Int.toNat x6)) 29))), .d (.int .i64 (dInt (cellAt (elemAt (List.map api_Packet.enc x0) (Int.toNat x6)) 30))), .d (.sl api_Sub.ks (dSl (cellAt (elemAt (List.map api_Packet.enc x0) (Int.toNat x6)) 31))), .d (.sl [.str] (dSl (cellAt (elemAt (List.map api_Packet.enc x0) (Int.toNat x6)) 32))), .d (.sl [.int .i64] (dSl (cellAt (elemAt (List.map api_Packet.enc x0) (Int.toNat x6)) 33)))], .d (.int .i64 x6)] [] [] fun r3 =>
    cond (r3.2 != 0) (
     R6_7 (C6 Γ γ14 γ7 γ12 γ15 γ19 γ20 γ8) Λ2 J (List.map api_Packet.enc x0) x4 x5 (IntKind.wrap .i64 (x6 + 1)) (api_Conn.enc b0)) (
    cond x5 (
     (some (.ret [.d (.bool false)] [] []))) (
    cond (decide (0 ≤ x6) && decide (x6 < (List.length (List.map api_Packet.enc x0) : Int))) (
     cond ((x4 == 0) != ((dInt (cellAt (elemAt (List.map api_Packet.enc x0) (Int.toNat x6)) 0)) == 1)) (
      (some (.ret [.d (.bool false)] [] []))) (
     cond (decide (0 ≤ x6) && decide (x6 < (List.length (List.map api_Packet.enc x0) : Int))) (
      γ19 [.agg [.d (.int .i64 (dInt (cellAt (elemAt (List.map api_Packet.enc x0) (Int.toNat x6)) 0))), .d (.int .i64 (dInt (cellAt (elemAt (List.map api_Packet.enc x0) (Int.toNat x6)) 1))), .d (.bool (dBool (cellAt (elemAt (List.map api_Packet.enc x0) (Int.toNat x6)) 2))), .d (.str (dStr (cellAt (elemAt (List.map api_Packet.enc x0) (Int.toNat x6)) 3))), .d (.str (dStr (cellAt (elemAt (List.map api_Packet.enc x0) (Int.toNat x6)) 4))), .d (.int .i64 (dInt (cellAt (elemAt (List.map api_Packet.enc x0) (Int.toNat x6)) 5))), .d (.bool (dBool (cellAt (elemAt (List.map api_Packet.enc x0) (Int.toNat x6)) 6))), .d (.int .i64 (dInt (cellAt (elemAt (List.map api_Packet.enc x0) (Int.toNat x6)) 7))), .d (.int .i64 (dInt (cellAt (elemAt (List.map api_Packet.enc x0) (Int.toNat x6)) 8))), .d (.str (dStr (cellAt (elemAt (List.map api_Packet.enc x0) (Int.toNat x6)) 9))), .d (.int .i64 (dInt (cellAt (elemAt (List.map api_Packet.enc x0) (Int.toNat x6)) 10))), .d (.sl api_Prop.ks (dSl (cellAt (elemAt (List.map api_Packet.enc x0) (Int.toNat x6)) 11))), .d (.str (dStr (cellAt (elemAt (List.map api_Packet.enc x0) (Int.toNat x6)) 12))), .d (.str (dStr (cellAt (elemAt (List.map api_Packet.enc x0) (Int.toNat x6)) 13))), .d (.bool (dBool (cellAt (elemAt (List.map api_Packet.enc x0) (Int.toNat x6)) 14))), .d (.int .i64 (dInt (cellAt (elemAt (List.map api_Packet.enc x0) (Int.toNat x6)) 15))), .d (.int .i64 (dInt (cellAt (elemAt (List.map api_Packet.enc x0) (Int.toNat x6)) 16))), .d (.int .i64 (dInt (cellAt (elemAt (List.map api_Packet.enc x0) (Int.toNat x6)) 17))), .d (.bool (dBool (cellAt (elemAt (List.map api_Packet.enc x0) (Int.toNat x6)) 18))), .d (.int .i64 (dInt (cellAt (elemAt (List.map api_Packet.enc x0) (Int.toNat x6)) 19))), .d (.str (dStr (cellAt (elemAt (List.map api_Packet.enc x0) (Int.toNat x6)) 20))), .d (.str (dStr (cellAt (elemAt (List.map api_Packet.enc x0) (Int.toNat x6)) 21))), .d (.int .i64 (dInt (cellAt (elemAt (List.map api_Packet.enc x0) (Int.toNat x6)) 22))), .d (.bool (dBool (cellAt (elemAt (List.map api_Packet.enc x0) (Int.toNat x6)) 23))), .d (.int .i64 (dInt (cellAt (elemAt (List.map api_Packet.enc x0) (Int.toNat x6)) 24))), .d (.int .i64 (dInt (cellAt (elemAt (List.map api_Packet.enc x0) (Int.toNat x6)) 25))), .d (.str (dStr (cellAt (elemAt (List.map api_Packet.enc x0) (Int.toNat x6)) 26))), .d (.int .i64 (dInt (cellAt (elemAt (List.map api_Packet.enc x0) (Int.toNat x6)) 27))), .d (.sl api_Prop.ks (dSl (cellAt (elemAt (List.map api_Packet.enc x0) (Int.toNat x6)) 28))), .d (.bool (dBool (cellAt (elemAt (List.map api_Packet.enc x0) (Int.toNat x6)) 29))), .d (.int .i64 (dInt (cellAt (elemAt (List.map api_Packet.enc x0) (Int.toNat x6)) 30))), .d (.sl api_Sub.ks (dSl (cellAt (elemAt (List.map api_Packet.enc x0) (Int.toNat x6)) 31))), .d (.sl [.str] (dSl (cellAt (elemAt (List.map api_Packet.enc x0) (Int.toNat x6)) 32))), .d (.sl [.int .i64] (dSl (cellAt (elemAt (List.map api_Packet.enc x0) (Int.toNat x6)) 33)))]] [] [] fun r4 =>
      cond (r4 != 0) (
       (some (.ret [.d (.bool false)] [] []))) (
      cond (decide (0 ≤ x6) && decide (x6 < (List.length (List.map api_Packet.enc x0) : Int))) (
       γ20 [.d (.int .i64 (dInt (cellAt (elemAt (List.map api_Packet.enc x0) (Int.toNat x6)) 0)))] [] [] fun r5 =>
       cond (!r5) (
        (some (.ret [.d (.bool false)] [] []))) (
       γ8 [api_Conn.av r3.1] [] [] fun r6 =>
       cond (r6 != 0) (
        (some (.ret [.d (.bool false)] [] []))) (
       R6_13 (C6 Γ γ14 γ7 γ12 γ15 γ19 γ20 γ8) Λ2 J (List.map api_Packet.enc x0) x4 x6 x4 (x4 == 0) (List.map api_Packet.enc x0) x6 ((dInt (cellAt (elemAt (List.map api_Packet.enc x0) (Int.toNat x6)) 0))) (((dInt (cellAt (elemAt (List.map api_Packet.enc x0) (Int.toNat x6)) 0)) == 1)) (((x4 == 0) != ((dInt (cellAt (elemAt (List.map api_Packet.enc x0) (Int.toNat x6)) 0)) == 1))) (List.map api_Packet.enc x0) x6 [D.int .i64 (dInt (cellAt (elemAt (List.map api_Packet.enc x0) (Int.toNat x6)) 0)), D.int .i64 (dInt (cellAt (elemAt (List.map api_Packet.enc x0) (Int.toNat x6)) 1)), D.bool (dBool (cellAt (elemAt (List.map api_Packet.enc x0) (Int.toNat x6)) 2)), D.str (dStr (cellAt (elemAt (List.map api_Packet.enc x0) (Int.toNat x6)) 3)), D.str (dStr (cellAt (elemAt (List.map api_Packet.enc x0) (Int.toNat x6)) 4)), D.int .i64 (dInt (cellAt (elemAt (List.map api_Packet.enc x0) (Int.toNat x6)) 5)), D.bool (dBool (cellAt (elemAt (List.map api_Packet.enc x0) (Int.toNat x6)) 6)), D.int .i64 (dInt (cellAt (elemAt (List.map api_Packet.enc x0) (Int.toNat x6)) 7)), D.int .i64 (dInt (cellAt (elemAt (List.map api_Packet.enc x0) (Int.toNat x6)) 8)), D.str (dStr (cellAt (elemAt (List.map api_Packet.enc x0) (Int.toNat x6)) 9)), D.int .i64 (dInt (cellAt (elemAt (List.map api_Packet.enc x0) (Int.toNat x6)) 10)), D.sl api_Prop.ks (dSl (cellAt (elemAt (List.map api_Packet.enc x0) (Int.toNat x6)) 11)), D.str (dStr (cellAt (elemAt (List.map api_Packet.enc x0) (Int.toNat x6)) 12)), D.str (dStr (cellAt (elemAt (List.map api_Packet.enc x0) (Int.toNat x6)) 13)), D.bool (dBool (cellAt (elemAt (List.map api_Packet.enc x0) (Int.toNat x6)) 14)), D.int .i64 (dInt (cellAt (elemAt (List.map api_Packet.enc x0) (Int.toNat x6)) 15)), D.int .i64 (dInt (cellAt (elemAt (List.map api_Packet.enc x0) (Int.toNat x6)) 16)), D.int .i64 (dInt (cellAt (elemAt (List.map api_Packet.enc x0) (Int.toNat x6)) 17)), D.bool (dBool (cellAt (elemAt (List.map api_Packet.enc x0) (Int.toNat x6)) 18)), D.int .i64 (dInt (cellAt (elemAt (List.map api_Packet.enc x0) (Int.toNat x6)) 19)), D.str (dStr (cellAt (elemAt (List.map api_Packet.enc x0) (Int.toNat x6)) 20)), D.str (dStr (cellAt (elemAt (List.map api_Packet.enc x0) (Int.toNat x6)) 21)), D.int .i64 (dInt (cellAt (elemAt (List.map api_Packet.enc x0) (Int.toNat x6)) 22)), D.bool (dBool (cellAt (elemAt (List.map api_Packet.enc x0) (Int.toNat x6)) 23)), D.int .i64 (dInt (cellAt (elemAt (List.map api_Packet.enc x0) (Int.toNat x6)) 24)), D.int .i64 (dInt (cellAt (elemAt (List.map api_Packet.enc x0) (Int.toNat x6)) 25)), D.str (dStr (cellAt (elemAt (List.map api_Packet.enc x0) (Int.toNat x6)) 26)), D.int .i64 (dInt (cellAt (elemAt (List.map api_Packet.enc x0) (Int.toNat x6)) 27)), D.sl api_Prop.ks (dSl (cellAt (elemAt (List.map api_Packet.enc x0) (Int.toNat x6)) 28)), D.bool (dBool (cellAt (elemAt (List.map api_Packet.enc x0) (Int.toNat x6)) 29)), D.int .i64 (dInt (cellAt (elemAt (List.map api_Packet.enc x0) (Int.toNat x6)) 30)), D.sl api_Sub.ks (dSl (cellAt (elemAt (List.map api_Packet.enc x0) (Int.toNat x6)) 31)), D.sl [.str] (dSl (cellAt (elemAt (List.map api_Packet.enc x0) (Int.toNat x6)) 32)), D.sl [.int .i64] (dSl (cellAt (elemAt (List.map api_Packet.enc x0) (Int.toNat x6)) 33))] r4 (r4 != 0) (List.map api_Packet.enc x0) x6 ((dInt (cellAt (elemAt (List.map api_Packet.enc x0) (Int.toNat x6)) 0))) r5 (!r5) (api_Conn.enc r3.1) r6 (r6 != 0) (api_Conn.enc b0) (api_Conn.enc r3.1)))) none)) none)) none))) none) (
  γ7 [] [] [] fun r7 =>
  (some (.ret [.d (.bool r7)] [] []))) := by kernel_rfl
abbrev X6 : CFun := C6 (callG SE good) (callT SE good 14 brokerlaw49_light_out) (callT SE good 7 brokerlaw49_awake_out) (callT SE good 12 conn_New_out) (callT SE good 15 conn_Receive_out) (callT SE good 19 brokerref06_Check_out) (callT SE good 20 brokerref06_Client_out) (callT SE good 8 conn_Check_out)
theorem Cr6 : C6 (callG SE good) (callT SE good 14 brokerlaw49_light_out) (callT SE good 7 brokerlaw49_awake_out) (callT SE good 12 conn_New_out) (callT SE good 15 conn_Receive_out) (callT SE good 19 brokerref06_Check_out) (callT SE good 20 brokerref06_Client_out) (callT SE good 8 conn_Check_out) = bindC (callG SE good) := by unfold C6; rw [updC_real (fun _ h => h), updC_real (fun _ h => h), updC_real (fun _ h => h), updC_real (fun _ h => h), updC_real (fun _ h => h), updC_real (fun _ h => h), updC_real (fun _ h => h)]
noncomputable abbrev Q6_13 (a0 : (List (List D))) (a1 : Int) (a2 : Int) (a3 : Int) (a4 : Bool) (a5 : (List (List D))) (a6 : Int) (a7 : Int) (a8 : Bool) (a9 : Bool) (a10 : (List (List D))) (a11 : Int) (a12 : (List D)) (a13 : Int) (a14 : Bool) (a15 : (List (List D))) (a16 : Int) (a17 : Int) (a18 : Bool) (a19 : Bool) (a20 : (List D)) (a21 : Int) (a22 : Bool) (a23 : (List D)) (a24 : (List D)) : Res := R6_13 X6 (lam2 SE (callG SE good) (SE.hl 6) (SE.hr 6)) (J0 SE X6) a0 a1 a2 a3 a4 a5 a6 a7 a8 a9 a10 a11 a12 a13 a14 a15 a16 a17 a18 a19 a20 a21 a22 a23 a24
noncomputable abbrev Q6_7 (a0 : (List (List D))) (a1 : Int) (a2 : Bool) (a3 : Int) (a4 : (List D)) : Res := R6_7 X6 (lam2 SE (callG SE good) (SE.hl 6) (SE.hr 6)) (J0 SE X6) a0 a1 a2 a3 a4
theorem brokerlaw49_ConnSequence_j13_ok (k7 : (List api_Packet) → Int → Bool → Int → api_Conn → Option (Bool)) (hk7 : ∀ (x0 : (List api_Packet)) (x4 : Int) (x5 : Bool) (x6 : Int) (b0 : api_Conn), Le (Option.map brokerlaw49_ConnSequence_out (k7 x0 x4 x5 x6 b0)) (Q6_7 (List.map api_Packet.enc x0) x4 x5 x6 (api_Conn.enc b0))) (x0 : (List api_Packet)) (x4 : Int) (x6 : Int) (x34 : Int) (x35 : Bool) (x36 : (List api_Packet)) (x37 : Int) (x40 : Int) (x41 : Bool) (x42 : Bool) (x45 : (List api_Packet)) (x46 : Int) (x48 : api_Packet) (x49 : Int) (x50 : Bool) (x53 : (List api_Packet)) (x54 : Int) (x57 : Int) (x58 : Bool) (x59 : Bool) (x62 : api_Conn) (x63 : Int) (x64 : Bool) (b0 : api_Conn) (b1 : api_Conn) : Le (Option.map brokerlaw49_ConnSequence_out (brokerlaw49_ConnSequence_j13 k7 x0 x4 x6 x34 x35 x36 x37 x40 x41 x42 x45 x46 x48 x49 x50 x53 x54 x57 x58 x59 x62 x63 x64 b0 b1)) (Q6_13 (List.map api_Packet.enc x0) x4 x6 x34 x35 (List.map api_Packet.enc x36) x37 x40 x41 x42 (List.map api_Packet.enc x45) x46 (api_Packet.enc x48) x49 x50 (List.map api_Packet.enc x53) x54 x57 x58 x59 (api_Conn.enc x62) x63 x64 (api_Conn.enc b0) (api_Conn.enc b1)) := by
  refine Le.trans ?_ (le_of_eq ((lab_realC Cr6).trans (T6_13 _ _ _ _ _ _ _ _ _ _  x0 x4 x6 x34 x35 x36 x37 x40 x41 x42 x45 x46 x48 x49 x50 x53 x54 x57 x58 x59 x62 x63 x64 b0 b1)).symm)
  unfold brokerlaw49_ConnSequence_j13
  refine le_cond (by simp only [EN]) (fun _ => ?_) (fun _ => le_none)
  refine le_cond (by simp only [EN]) (fun _ => ?_) (fun _ => ?_)
  · skip
    exact le_ret (by first | rfl | (simp only [EN, brokerlaw49_ConnSequence_out]; done) | (simp only [EN, brokerlaw49_ConnSequence_out]; rfl))
  · skip
    first | (simp only [EN]; exact hk7 x0 (IntKind.wrap .i64 (x4 + 1)) ((List.getD x0 (Int.toNat x6) default).Kind == 14) (IntKind.wrap .i64 (x6 + 1)) b1) | exact hk7 x0 (IntKind.wrap .i64 (x4 + 1)) ((List.getD x0 (Int.toNat x6) default).Kind == 14) (IntKind.wrap .i64 (x6 + 1)) b1
theorem brokerlaw49_ConnSequence_l7_ok : ∀ (fu : Nat) (x0 : (List api_Packet)) (x4 : Int) (x5 : Bool) (x6 : Int) (b0 : api_Conn), Le (Option.map brokerlaw49_ConnSequence_out (brokerlaw49_ConnSequence_l7 fu x0 x4 x5 x6 b0)) (Q6_7 (List.map api_Packet.enc x0) x4 x5 x6 (api_Conn.enc b0)) := by
  intro fu
  induction fu with
  | zero => intros; exact le_none
  | succ fu ih =>
    intro x0 x4 x5 x6 b0
    refine Le.trans ?_ (le_of_eq ((lab_realC Cr6).trans (T6_7 _ _ _ _ _ _ _ _ _ _  x0 x4 x5 x6 b0)).symm)
    unfold brokerlaw49_ConnSequence_l7
    refine le_cond (by simp only [EN]) (fun _ => ?_) (fun _ => ?_)
    · skip
      refine le_cond (by simp only [EN]) (fun _ => ?_) (fun _ => le_none)
      refine le_call (good := good) (fun y => ⟨y, rfl⟩) conn_Receive_inj (by first | (simp only [EN]; exact conn_Receive_ok b0 (List.getD x0 (Int.toNat x6) default) x6) | exact conn_Receive_ok b0 (List.getD x0 (Int.toNat x6) default) x6) (fun r3 _ => ?_)
      refine le_cond rfl (fun _ => ?_) (fun _ => ?_)
      · skip
        exact ih x0 x4 x5 (IntKind.wrap .i64 (x6 + 1)) b0
      · skip
        refine le_cond rfl (fun _ => ?_) (fun _ => ?_)
        · skip
          exact le_ret (by first | rfl | (simp only [EN, brokerlaw49_ConnSequence_out]; done) | (simp only [EN, brokerlaw49_ConnSequence_out]; rfl))
        · skip
          refine le_cond (by simp only [EN]) (fun _ => ?_) (fun _ => le_none)
          refine le_cond (by simp only [EN]) (fun _ => ?_) (fun _ => ?_)
          · skip
            exact le_ret (by first | rfl | (simp only [EN, brokerlaw49_ConnSequence_out]; done) | (simp only [EN, brokerlaw49_ConnSequence_out]; rfl))
          · skip
            refine le_cond (by simp only [EN]) (fun _ => ?_) (fun _ => le_none)
            refine le_call (good := good) (fun y => ⟨y, rfl⟩) brokerref06_Check_inj (by first | (simp only [EN]; exact brokerref06_Check_ok (List.getD x0 (Int.toNat x6) default)) | exact brokerref06_Check_ok (List.getD x0 (Int.toNat x6) default)) (fun r4 _ => ?_)
            refine le_cond rfl (fun _ => ?_) (fun _ => ?_)
            · skip
              exact le_ret (by first | rfl | (simp only [EN, brokerlaw49_ConnSequence_out]; done) | (simp only [EN, brokerlaw49_ConnSequence_out]; rfl))
            · skip
              refine le_cond (by simp only [EN]) (fun _ => ?_) (fun _ => le_none)
              refine le_call (good := good) (fun y => ⟨y, rfl⟩) brokerref06_Client_inj (by first | (simp only [EN]; exact brokerref06_Client_ok ((List.getD x0 (Int.toNat x6) default).Kind)) | exact brokerref06_Client_ok ((List.getD x0 (Int.toNat x6) default).Kind)) (fun r5 _ => ?_)
              refine le_cond rfl (fun _ => ?_) (fun _ => ?_)
              · skip
                exact le_ret (by first | rfl | (simp only [EN, brokerlaw49_ConnSequence_out]; done) | (simp only [EN, brokerlaw49_ConnSequence_out]; rfl))
              · skip
                refine le_call (good := good) (fun y => ⟨y, rfl⟩) conn_Check_inj (conn_Check_ok r3.1) (fun r6 _ => ?_)
                refine le_cond rfl (fun _ => ?_) (fun _ => ?_)
                · skip
                  exact le_ret (by first | rfl | (simp only [EN, brokerlaw49_ConnSequence_out]; done) | (simp only [EN, brokerlaw49_ConnSequence_out]; rfl))
                · skip
                  first | (simp only [EN]; exact brokerlaw49_ConnSequence_j13_ok _ (ih) x0 x4 x6 x4 (x4 == 0) x0 x6 ((List.getD x0 (Int.toNat x6) default).Kind) ((List.getD x0 (Int.toNat x6) default).Kind == 1) (((x4 == 0) != ((List.getD x0 (Int.toNat x6) default).Kind == 1))) x0 x6 (List.getD x0 (Int.toNat x6) default) r4 (r4 != 0) x0 x6 ((List.getD x0 (Int.toNat x6) default).Kind) r5 (!r5) r3.1 r6 (r6 != 0) b0 r3.1) | exact brokerlaw49_ConnSequence_j13_ok _ (ih) x0 x4 x6 x4 (x4 == 0) x0 x6 ((List.getD x0 (Int.toNat x6) default).Kind) ((List.getD x0 (Int.toNat x6) default).Kind == 1) (((x4 == 0) != ((List.getD x0 (Int.toNat x6) default).Kind == 1))) x0 x6 (List.getD x0 (Int.toNat x6) default) r4 (r4 != 0) x0 x6 ((List.getD x0 (Int.toNat x6) default).Kind) r5 (!r5) r3.1 r6 (r6 != 0) b0 r3.1
    · skip
      refine le_call (good := good) (fun y => ⟨y, rfl⟩) brokerlaw49_awake_inj (brokerlaw49_awake_ok) (fun r7 _ => ?_)
      exact le_ret (by first | rfl | (simp only [EN, brokerlaw49_ConnSequence_out]; done) | (simp only [EN, brokerlaw49_ConnSequence_out]; rfl))
theorem brokerlaw49_ConnSequence_ok (p0 : (List api_Packet)) : Le (Option.map brokerlaw49_ConnSequence_out (brokerlaw49_ConnSequence p0)) (callW SE 6 [.d (.sl api_Packet.ks (List.map api_Packet.enc p0))] [] []) := by
  refine le_bodyC Cr6 ?_
  refine Le.trans ?_ (le_of_eq (T6 _ _ _ _ _ _ _ _ _ _  p0).symm)
  unfold brokerlaw49_ConnSequence
  refine le_call (good := good) (fun y => ⟨y, rfl⟩) brokerlaw49_light_inj (brokerlaw49_light_ok p0) (fun r0 _ => ?_)
  refine le_cond rfl (fun _ => ?_) (fun _ => ?_)
  · skip
    refine le_call (good := good) (fun y => ⟨y, rfl⟩) brokerlaw49_awake_inj (brokerlaw49_awake_ok) (fun r1 _ => ?_)
    exact le_ret (by first | rfl | (simp only [EN, brokerlaw49_ConnSequence_out]; done) | (simp only [EN, brokerlaw49_ConnSequence_out]; rfl))
  · skip
    refine le_call (good := good) (fun y => ⟨y, rfl⟩) conn_New_inj (conn_New_ok 1 0) (fun r2 _ => ?_)
    exact brokerlaw49_ConnSequence_l7_ok fuel p0 0 false 0 r2
end Te
end PX
