import Derived.Test.YtkkbpepemldlaaaDoorTre0
set_option linter.unusedVariables false
set_option linter.unusedSimpArgs false
set_option linter.unusedVariables false
set_option linter.unusedSimpArgs false
set_option maxRecDepth 100000
noncomputable section
namespace PX
open Go
open Md
namespace Te
def C89 (Γ : Fun) (γ95 : Gm (Int)) (γ96 : Gm (Int)) : CFun := updC (updC (bindC Γ) 95 strings_Count_out γ95) 96 strings_Index_out γ96
def R89_17 (C : CFun) (Λ2 J : Lam) (a0 : Str) (a1 : Int) (a2 : (List (List D))) : Res := lab SE C Λ2 J 89 0 [1, 1, 1, 1, 1, 1, 1, 1, 1, 0] (stoOf [(0, .d (.str a0)), (9, .row 3009), (10, .d (.int .i64 a1))] [] [] [] [(3009, ⟨[.str], 9, 16, a2⟩)])
def R89_11 (C : CFun) (Λ2 J : Lam) (a0 : Str) (a1 : Str) (a2 : Int) (a3 : Int) (a4 : Int) (a5 : (List (List D))) : Res := lab SE C Λ2 J 89 0 [1, 1, 1, 1, 1, 1, 1, 1, 0, 0] (stoOf [(0, .d (.str a0)), (1, .d (.str a1)), (2, .d (.int .i64 a2)), (3, .d (.int .i64 a3)), (9, .row 3009), (10, .d (.int .i64 a4))] [] [] [] [(3009, ⟨[.str], 9, 16, a5⟩)])
def R89_7 (C : CFun) (Λ2 J : Lam) (a0 : Str) (a1 : Str) (a2 : Int) (a3 : Int) : Res := lab SE C Λ2 J 89 0 [1, 1, 1, 1, 0] (stoOf [(0, .d (.str a0)), (1, .d (.str a1)), (2, .d (.int .i64 a2)), (3, .d (.int .i64 a3))] [] [] [] [])
theorem T89 (Γ : Fun) (γ95 : Gm (Int)) (γ96 : Gm (Int)) (Λ2 J : Lam) (p0 : Str) (p1 : Str) (p2 : Int) (p3 : Int) : bodyC SE (C89 Γ γ95 γ96) Λ2 J 89 [.d (.str p0), .d (.str p1), .d (.int .i64 p2), .d (.int .i64 p3)] [] [] =
  cond (p3 == 0) (
   (some (.ret [.d (.sl [.str] (List.map encS []))] [] []))) (
  cond (p1 == ([] : Str)) (
   none) (
  cond (decide (p3 < 0)) (
   γ95 [.d (.str p0), .d (.str p1)] [] [] fun r0 =>
   R89_7 (C89 Γ γ95 γ96) Λ2 J p0 p1 p2 (IntKind.wrap .i64 (r0 + 1))) (
  R89_7 (C89 Γ γ95 γ96) Λ2 J p0 p1 p2 p3))) := by kernel_rfl
theorem T89_17 (Γ : Fun) (γ95 : Gm (Int)) (γ96 : Gm (Int)) (Λ2 J : Lam) (x0 : Str) (x10 : Int) (w3009 : (List Str)) : labU SE (C89 Γ γ95 γ96) Λ2 J 89 0 [1, 1, 1, 1, 1, 1, 1, 1, 1, 0] (stoOf [(0, .d (.str x0)), (9, .row 3009), (10, .d (.int .i64 x10))] [] [] [] [(3009, ⟨[.str], 9, 16, (List.map encS w3009)⟩)]) =
  cond (decide (0 ≤ x10) && decide (x10 < (List.length (List.map encS w3009) : Int))) (
   cond (decide (0 ≤ (IntKind.wrap .i64 (x10 + 1))) && decide ((IntKind.wrap .i64 (x10 + 1)) ≤ ((List.length (setE (List.map encS w3009) (Int.toNat x10) 0 [D.str x0])) : Int))) (
    (some (.ret [.d (.sl [.str] (List.take ((Int.toNat (IntKind.wrap .i64 (x10 + 1))) - 0) (List.drop 0 (setE (List.map encS w3009) (Int.toNat x10) 0 [D.str x0]))))] [] []))) none) none := by kernel_rfl
theorem T89_11 (Γ : Fun) (γ95 : Gm (Int)) (γ96 : Gm (Int)) (Λ2 J : Lam) (x0 : Str) (x1 : Str) (x2 : Int) (x3 : Int) (x10 : Int) (w3009 : (List Str)) : labU SE (C89 Γ γ95 γ96) Λ2 J 89 0 [1, 1, 1, 1, 1, 1, 1, 1, 0, 0] (stoOf [(0, .d (.str x0)), (1, .d (.str x1)), (2, .d (.int .i64 x2)), (3, .d (.int .i64 x3)), (9, .row 3009), (10, .d (.int .i64 x10))] [] [] [] [(3009, ⟨[.str], 9, 16, (List.map encS w3009)⟩)]) =
  cond (decide (x10 < x3)) (
   γ96 [.d (.str x0), .d (.str x1)] [] [] fun r1 =>
   cond (decide (r1 < 0)) (
    R89_17 (C89 Γ γ95 γ96) Λ2 J x0 x10 (List.map encS w3009)) (
   cond (decide (0 ≤ (IntKind.wrap .i64 (r1 + x2))) && decide ((IntKind.wrap .i64 (r1 + x2)) ≤ ((List.length x0) : Int))) (
    cond (decide (0 ≤ x10) && decide (x10 < (List.length (List.map encS w3009) : Int))) (
     cond (decide (0 ≤ (IntKind.wrap .i64 (r1 + (List.length x1 : Int)))) && decide ((IntKind.wrap .i64 (r1 + (List.length x1 : Int))) ≤ ((List.length x0) : Int))) (
      R89_11 (C89 Γ γ95 γ96) Λ2 J (cutL x0 (some (IntKind.wrap .i64 (r1 + (List.length x1 : Int)))) none) x1 x2 x3 (IntKind.wrap .i64 (x10 + 1)) ((setE (List.map encS w3009) (Int.toNat x10) 0 [D.str (cutL x0 none (some (IntKind.wrap .i64 (r1 + x2))))]))) none) none) none)) (
  R89_17 (C89 Γ γ95 γ96) Λ2 J x0 x10 (List.map encS w3009)) := by kernel_rfl
theorem T89_7 (Γ : Fun) (γ95 : Gm (Int)) (γ96 : Gm (Int)) (Λ2 J : Lam) (x0 : Str) (x1 : Str) (x2 : Int) (x3 : Int) : labU SE (C89 Γ γ95 γ96) Λ2 J 89 0 [1, 1, 1, 1, 0] (stoOf [(0, .d (.str x0)), (1, .d (.str x1)), (2, .d (.int .i64 x2)), (3, .d (.int .i64 x3))] [] [] [] []) =
  cond (decide (0 ≤ (if (IntKind.wrap .i64 ((List.length x0 : Int) + 1)) < x3 then (IntKind.wrap .i64 ((List.length x0 : Int) + 1)) else x3)) && decide ((if (IntKind.wrap .i64 ((List.length x0 : Int) + 1)) < x3 then (IntKind.wrap .i64 ((List.length x0 : Int) + 1)) else x3) ≤ (if (IntKind.wrap .i64 ((List.length x0 : Int) + 1)) < x3 then (IntKind.wrap .i64 ((List.length x0 : Int) + 1)) else x3)) && decide ((if (IntKind.wrap .i64 ((List.length x0 : Int) + 1)) < x3 then (IntKind.wrap .i64 ((List.length x0 : Int) + 1)) else x3) * 16 ≤ 281474976710656)) (
   R89_11 (C89 Γ γ95 γ96) Λ2 J x0 x1 x2 ((IntKind.wrap .i64 ((if (IntKind.wrap .i64 ((List.length x0 : Int) + 1)) < x3 then (IntKind.wrap .i64 ((List.length x0 : Int) + 1)) else x3) - 1))) 0 ((List.replicate (Int.toNat (if (IntKind.wrap .i64 ((List.length x0 : Int) + 1)) < x3 then (IntKind.wrap .i64 ((List.length x0 : Int) + 1)) else x3)) [D.str ([] : Str)]))) none := by kernel_rfl
abbrev X89 : CFun := C89 (callG SE good) (callT SE good 95 strings_Count_out) (callT SE good 96 strings_Index_out)
theorem Cr89 : C89 (callG SE good) (callT SE good 95 strings_Count_out) (callT SE good 96 strings_Index_out) = bindC (callG SE good) := by unfold C89; rw [updC_real (fun _ h => h), updC_real (fun _ h => h)]
noncomputable abbrev Q89_17 (a0 : Str) (a1 : Int) (a2 : (List (List D))) : Res := R89_17 X89 (lam2 SE (callG SE good) (SE.hl 89) (SE.hr 89)) (J0 SE X89) a0 a1 a2
noncomputable abbrev Q89_11 (a0 : Str) (a1 : Str) (a2 : Int) (a3 : Int) (a4 : Int) (a5 : (List (List D))) : Res := R89_11 X89 (lam2 SE (callG SE good) (SE.hl 89) (SE.hr 89)) (J0 SE X89) a0 a1 a2 a3 a4 a5
noncomputable abbrev Q89_7 (a0 : Str) (a1 : Str) (a2 : Int) (a3 : Int) : Res := R89_7 X89 (lam2 SE (callG SE good) (SE.hl 89) (SE.hr 89)) (J0 SE X89) a0 a1 a2 a3
theorem strings_genSplit_j17_ok (x0 : Str) (x10 : Int) (w3009 : (List Str)) : Le (Option.map strings_genSplit_out (strings_genSplit_j17 x0 x10 w3009)) (Q89_17 x0 x10 (List.map encS w3009)) := by
  refine Le.trans ?_ (le_of_eq ((lab_realC Cr89).trans (T89_17 _ _ _ _ _  x0 x10 w3009)).symm)
  unfold strings_genSplit_j17
  refine le_cond (by simp only [EN]) (fun _ => ?_) (fun _ => le_none)
  refine le_cond (by simp only [EN]) (fun _ => ?_) (fun _ => le_none)
  exact le_ret (by first | rfl | (simp only [EN, strings_genSplit_out]; done) | (simp only [EN, strings_genSplit_out]; rfl))
theorem strings_genSplit_l11_ok : ∀ (fu : Nat) (x0 : Str) (x1 : Str) (x2 : Int) (x3 : Int) (x10 : Int) (w3009 : (List Str)), Le (Option.map strings_genSplit_out (strings_genSplit_l11 fu x0 x1 x2 x3 x10 w3009)) (Q89_11 x0 x1 x2 x3 x10 (List.map encS w3009)) := by
  intro fu
  induction fu with
  | zero => intros; exact le_none
  | succ fu ih =>
    intro x0 x1 x2 x3 x10 w3009
    refine Le.trans ?_ (le_of_eq ((lab_realC Cr89).trans (T89_11 _ _ _ _ _  x0 x1 x2 x3 x10 w3009)).symm)
    unfold strings_genSplit_l11
    refine le_cond rfl (fun _ => ?_) (fun _ => ?_)
    · skip
      refine le_call (good := good) (fun y => ⟨y, rfl⟩) strings_Index_inj (strings_Index_ok x0 x1) (fun r1 _ => ?_)
      refine le_cond rfl (fun _ => ?_) (fun _ => ?_)
      · skip
        exact strings_genSplit_j17_ok x0 x10 w3009
      · skip
        refine le_cond rfl (fun _ => ?_) (fun _ => le_none)
        refine le_cond (by simp only [EN]) (fun _ => ?_) (fun _ => le_none)
        refine le_cond rfl (fun _ => ?_) (fun _ => le_none)
        first | (simp only [EN]; exact ih (cutL x0 (some (IntKind.wrap .i64 (r1 + (List.length x1 : Int)))) none) x1 x2 x3 (IntKind.wrap .i64 (x10 + 1)) ((List.set w3009 (Int.toNat x10) (cutL x0 none (some (IntKind.wrap .i64 (r1 + x2))))))) | exact ih (cutL x0 (some (IntKind.wrap .i64 (r1 + (List.length x1 : Int)))) none) x1 x2 x3 (IntKind.wrap .i64 (x10 + 1)) ((List.set w3009 (Int.toNat x10) (cutL x0 none (some (IntKind.wrap .i64 (r1 + x2))))))
    · skip
      exact strings_genSplit_j17_ok x0 x10 w3009
theorem strings_genSplit_j7_ok (x0 : Str) (x1 : Str) (x2 : Int) (x3 : Int) : Le (Option.map strings_genSplit_out (strings_genSplit_j7 x0 x1 x2 x3)) (Q89_7 x0 x1 x2 x3) := by
  refine Le.trans ?_ (le_of_eq ((lab_realC Cr89).trans (T89_7 _ _ _ _ _  x0 x1 x2 x3)).symm)
  unfold strings_genSplit_j7
  refine le_cond rfl (fun _ => ?_) (fun _ => le_none)
  first | (simp only [EN]; exact strings_genSplit_l11_ok fuel x0 x1 x2 ((IntKind.wrap .i64 ((if (IntKind.wrap .i64 ((List.length x0 : Int) + 1)) < x3 then (IntKind.wrap .i64 ((List.length x0 : Int) + 1)) else x3) - 1))) 0 ((List.replicate (Int.toNat (if (IntKind.wrap .i64 ((List.length x0 : Int) + 1)) < x3 then (IntKind.wrap .i64 ((List.length x0 : Int) + 1)) else x3)) default))) | exact strings_genSplit_l11_ok fuel x0 x1 x2 ((IntKind.wrap .i64 ((if (IntKind.wrap .i64 ((List.length x0 : Int) + 1)) < x3 then (IntKind.wrap .i64 ((List.length x0 : Int) + 1)) else x3) - 1))) 0 ((List.replicate (Int.toNat (if (IntKind.wrap .i64 ((List.length x0 : Int) + 1)) < x3 then (IntKind.wrap .i64 ((List.length x0 : Int) + 1)) else x3)) default))
theorem strings_genSplit_ok (p0 : Str) (p1 : Str) (p2 : Int) (p3 : Int) : Le (Option.map strings_genSplit_out (strings_genSplit p0 p1 p2 p3)) (callW SE 89 [.d (.str p0), .d (.str p1), .d (.int .i64 p2), .d (.int .i64 p3)] [] []) := by
  refine le_bodyC Cr89 ?_
  refine Le.trans ?_ (le_of_eq (T89 _ _ _ _ _  p0 p1 p2 p3).symm)
  unfold strings_genSplit
  refine le_cond rfl (fun _ => ?_) (fun _ => ?_)
  · skip
    exact le_ret (by first | rfl | (simp only [EN, strings_genSplit_out]; done) | (simp only [EN, strings_genSplit_out]; rfl))
  · skip
    refine le_cond rfl (fun _ => ?_) (fun _ => ?_)
    · skip
      exact le_none
    · skip
      refine le_cond rfl (fun _ => ?_) (fun _ => ?_)
      · skip
        refine le_call (good := good) (fun y => ⟨y, rfl⟩) strings_Count_inj (strings_Count_ok p0 p1) (fun r0 _ => ?_)
        exact strings_genSplit_j7_ok p0 p1 p2 (IntKind.wrap .i64 (r0 + 1))
      · skip
        exact strings_genSplit_j7_ok p0 p1 p2 p3
def C87 (Γ : Fun) (γ89 : Gm ((List Str))) : CFun := updC (bindC Γ) 89 strings_genSplit_out γ89
theorem T87 (Γ : Fun) (γ89 : Gm ((List Str))) (Λ2 J : Lam) (p0 : Str) (p1 : Str) : bodyC SE (C87 Γ γ89) Λ2 J 87 [.d (.str p0), .d (.str p1)] [] [] =
  γ89 [.d (.str p0), .d (.str p1), .d (.int .i64 0), .d (.int .i64 (-1))] [] [] fun r0 =>
  (some (.ret [.d (.sl [.str] (List.map encS r0))] [] [])) := by kernel_rfl
abbrev X87 : CFun := C87 (callG SE good) (callT SE good 89 strings_genSplit_out)
theorem Cr87 : C87 (callG SE good) (callT SE good 89 strings_genSplit_out) = bindC (callG SE good) := by unfold C87; rw [updC_real (fun _ h => h)]
theorem strings_Split_ok (p0 : Str) (p1 : Str) : Le (Option.map strings_Split_out (strings_Split p0 p1)) (callW SE 87 [.d (.str p0), .d (.str p1)] [] []) := by
  refine le_bodyC Cr87 ?_
  refine Le.trans ?_ (le_of_eq (T87 _ _ _ _  p0 p1).symm)
  unfold strings_Split
  refine le_call (good := good) (fun y => ⟨y, rfl⟩) strings_genSplit_inj (strings_genSplit_ok p0 p1 0 (-1)) (fun r0 _ => ?_)
  exact le_ret (by first | rfl | (simp only [EN, strings_Split_out]; done) | (simp only [EN, strings_Split_out]; rfl))
def C79 (Γ : Fun) (γ87 : Gm ((List Str))) : CFun := updC (bindC Γ) 87 strings_Split_out γ87
theorem T79 (Γ : Fun) (γ87 : Gm ((List Str))) (Λ2 J : Lam) (p0 : Str) : bodyC SE (C79 Γ γ87) Λ2 J 79 [.d (.str p0)] [] [] =
  γ87 [.d (.str p0), .d (.str ([47] : Str))] [] [] fun r0 =>
  (some (.ret [.d (.sl [.str] (List.map encS r0))] [] [])) := by kernel_rfl
abbrev X79 : CFun := C79 (callG SE good) (callT SE good 87 strings_Split_out)
theorem Cr79 : C79 (callG SE good) (callT SE good 87 strings_Split_out) = bindC (callG SE good) := by unfold C79; rw [updC_real (fun _ h => h)]
theorem topic_Levels_ok (p0 : Str) : Le (Option.map topic_Levels_out (topic_Levels p0)) (callW SE 79 [.d (.str p0)] [] []) := by
  refine le_bodyC Cr79 ?_
  refine Le.trans ?_ (le_of_eq (T79 _ _ _ _  p0).symm)
  unfold topic_Levels
  refine le_call (good := good) (fun y => ⟨y, rfl⟩) strings_Split_inj (strings_Split_ok p0 ([47] : Str)) (fun r0 _ => ?_)
  exact le_ret (by first | rfl | (simp only [EN, topic_Levels_out]; done) | (simp only [EN, topic_Levels_out]; rfl))
def C66 (Γ : Fun) (γ75 : Gm (Bool)) (γ79 : Gm ((List Str))) : CFun := updC (updC (bindC Γ) 75 topic_sized_out γ75) 79 topic_Levels_out γ79
def R66_9 (C : CFun) (Λ2 J : Lam) (a0 : (List (List D))) (a1 : Bool) (a2 : Int) (a3 : Str) (a4 : (List (List D))) (a5 : Int) (a6 : Int) (a7 : Str) (a8 : Nat) : Res := lab SE C Λ2 J 66 0 [1, 0, 1, 1, 1, 1, 0, 1, 0, 0, 1, 1, 0, 0, 1, 1, 0] (stoOf [(3, .d (.sl [.str] a0)), (4, .d (.bool a1)), (5, .d (.int .i64 a2)), (6, .d (.str a3)), (15, .d (.sl [.str] a4)), (16, .d (.int .i64 a5)), (17, .d (.int .i64 a6)), (23, .it 4000)] [] [] [(4000, (a7, a8))] [])
def R66_6 (C : CFun) (Λ2 J : Lam) (a0 : (List (List D))) (a1 : Bool) (a2 : (List (List D))) (a3 : Int) (a4 : Int) : Res := lab SE C Λ2 J 66 0 [1, 0, 1, 1, 1, 1, 0, 1, 0] (stoOf [(3, .d (.sl [.str] a0)), (4, .d (.bool a1)), (15, .d (.sl [.str] a2)), (16, .d (.int .i64 a3)), (17, .d (.int .i64 a4))] [] [] [] [])
theorem T66 (Γ : Fun) (γ75 : Gm (Bool)) (γ79 : Gm ((List Str))) (Λ2 J : Lam) (p0 : Str) : bodyC SE (C66 Γ γ75 γ79) Λ2 J 66 [.d (.str p0)] [] [] =
  γ75 [.d (.str p0)] [] [] fun r0 =>
  cond (!r0) (
   (some (.ret [.d (.bool false)] [] []))) (
  γ79 [.d (.str p0)] [] [] fun r1 =>
  R66_6 (C66 Γ γ75 γ79) Λ2 J (List.map encS r1) true (List.map encS r1) (List.length (List.map encS r1) : Int) 0) := by kernel_rfl
theorem T66_9 (Γ : Fun) (γ75 : Gm (Bool)) (γ79 : Gm ((List Str))) (Λ2 J : Lam) (x3 : (List Str)) (x4 : Bool) (x5 : Int) (x6 : Str) (x15 : (List Str)) (x16 : Int) (x17 : Int) (s4000 : Str) (i4000 : Nat) : labU SE (C66 Γ γ75 γ79) Λ2 J 66 0 [1, 0, 1, 1, 1, 1, 0, 1, 0, 0, 1, 1, 0, 0, 1, 1, 0] (stoOf [(3, .d (.sl [.str] (List.map encS x3))), (4, .d (.bool x4)), (5, .d (.int .i64 x5)), (6, .d (.str x6)), (15, .d (.sl [.str] (List.map encS x15))), (16, .d (.int .i64 x16)), (17, .d (.int .i64 x17)), (23, .it 4000)] [] [] [(4000, (s4000, i4000))] []) =
  cond (decide (i4000 < List.length s4000)) (
   cond (((dec s4000 i4000).1 : Int) == 43) (
    cond (!((List.length x6 : Int) == 1)) (
     (some (.ret [.d (.bool false)] [] []))) (
    cond (((dec s4000 i4000).1 : Int) == 35) (
     cond (!((List.length x6 : Int) == 1)) (
      (some (.ret [.d (.bool false)] [] []))) (
     cond (decide (x5 < (IntKind.wrap .i64 ((List.length (List.map encS x3) : Int) - 1)))) (
      (some (.ret [.d (.bool false)] [] []))) (
     R66_9 (C66 Γ γ75 γ79) Λ2 J (List.map encS x3) x4 x5 x6 (List.map encS x15) x16 x17 s4000 (i4000 + (dec s4000 i4000).2)))) (
    R66_9 (C66 Γ γ75 γ79) Λ2 J (List.map encS x3) x4 x5 x6 (List.map encS x15) x16 x17 s4000 (i4000 + (dec s4000 i4000).2)))) (
   cond (((dec s4000 i4000).1 : Int) == 35) (
    cond (!((List.length x6 : Int) == 1)) (
     (some (.ret [.d (.bool false)] [] []))) (
    cond (decide (x5 < (IntKind.wrap .i64 ((List.length (List.map encS x3) : Int) - 1)))) (
     (some (.ret [.d (.bool false)] [] []))) (
    R66_9 (C66 Γ γ75 γ79) Λ2 J (List.map encS x3) x4 x5 x6 (List.map encS x15) x16 x17 s4000 (i4000 + (dec s4000 i4000).2)))) (
   R66_9 (C66 Γ γ75 γ79) Λ2 J (List.map encS x3) x4 x5 x6 (List.map encS x15) x16 x17 s4000 (i4000 + (dec s4000 i4000).2)))) (
  R66_6 (C66 Γ γ75 γ79) Λ2 J (List.map encS x3) x4 (List.map encS x15) x16 (IntKind.wrap .i64 (x17 + 1))) := by kernel_rfl
theorem T66_6 (Γ : Fun) (γ75 : Gm (Bool)) (γ79 : Gm ((List Str))) (Λ2 J : Lam) (x3 : (List Str)) (x4 : Bool) (x15 : (List Str)) (x16 : Int) (x17 : Int) : labU SE (C66 Γ γ75 γ79) Λ2 J 66 0 [1, 0, 1, 1, 1, 1, 0, 1, 0] (stoOf [(3, .d (.sl [.str] (List.map encS x3))), (4, .d (.bool x4)), (15, .d (.sl [.str] (List.map encS x15))), (16, .d (.int .i64 x16)), (17, .d (.int .i64 x17))] [] [] [] []) =
  cond (decide (x17 < x16)) (
   cond (decide (0 ≤ x17) && decide (x17 < (List.length (List.map encS x15) : Int))) (
    R66_9 (C66 Γ γ75 γ79) Λ2 J (List.map encS x3) x4 x17 ((dStr (cellAt (elemAt (List.map encS x15) (Int.toNat x17)) 0))) (List.map encS x15) x16 x17 ((dStr (cellAt (elemAt (List.map encS x15) (Int.toNat x17)) 0))) 0) none) (
  (some (.ret [.d (.bool x4)] [] []))) := by kernel_rfl
abbrev X66 : CFun := C66 (callG SE good) (callT SE good 75 topic_sized_out) (callT SE good 79 topic_Levels_out)
theorem Cr66 : C66 (callG SE good) (callT SE good 75 topic_sized_out) (callT SE good 79 topic_Levels_out) = bindC (callG SE good) := by unfold C66; rw [updC_real (fun _ h => h), updC_real (fun _ h => h)]
noncomputable abbrev Q66_9 (a0 : (List (List D))) (a1 : Bool) (a2 : Int) (a3 : Str) (a4 : (List (List D))) (a5 : Int) (a6 : Int) (a7 : Str) (a8 : Nat) : Res := R66_9 X66 (lam2 SE (callG SE good) (SE.hl 66) (SE.hr 66)) (J0 SE X66) a0 a1 a2 a3 a4 a5 a6 a7 a8
noncomputable abbrev Q66_6 (a0 : (List (List D))) (a1 : Bool) (a2 : (List (List D))) (a3 : Int) (a4 : Int) : Res := R66_6 X66 (lam2 SE (callG SE good) (SE.hl 66) (SE.hr 66)) (J0 SE X66) a0 a1 a2 a3 a4
theorem topic_Filter_l9_ok : ∀ (fu : Nat) (k6 : (List Str) → Bool → (List Str) → Int → Int → Option (Bool)) (hk6 : ∀ (x3 : (List Str)) (x4 : Bool) (x15 : (List Str)) (x16 : Int) (x17 : Int), Le (Option.map topic_Filter_out (k6 x3 x4 x15 x16 x17)) (Q66_6 (List.map encS x3) x4 (List.map encS x15) x16 x17)) (x3 : (List Str)) (x4 : Bool) (x5 : Int) (x6 : Str) (x15 : (List Str)) (x16 : Int) (x17 : Int) (s4000 : Str) (i4000 : Nat), Le (Option.map topic_Filter_out (topic_Filter_l9 fu k6 x3 x4 x5 x6 x15 x16 x17 s4000 i4000)) (Q66_9 (List.map encS x3) x4 x5 x6 (List.map encS x15) x16 x17 s4000 i4000) := by
  intro fu
  induction fu with
  | zero => intros; exact le_none
  | succ fu ih =>
    intro k6 hk6 x3 x4 x5 x6 x15 x16 x17 s4000 i4000
    refine Le.trans ?_ (le_of_eq ((lab_realC Cr66).trans (T66_9 _ _ _ _ _  x3 x4 x5 x6 x15 x16 x17 s4000 i4000)).symm)
    unfold topic_Filter_l9
    refine le_cond rfl (fun _ => ?_) (fun _ => ?_)
    · skip
      refine le_cond rfl (fun _ => ?_) (fun _ => ?_)
      · skip
        refine le_cond rfl (fun _ => ?_) (fun _ => ?_)
        · skip
          exact le_ret (by first | rfl | (simp only [EN, topic_Filter_out]; done) | (simp only [EN, topic_Filter_out]; rfl))
        · skip
          refine le_cond rfl (fun _ => ?_) (fun _ => ?_)
          · skip
            refine le_cond rfl (fun _ => ?_) (fun _ => ?_)
            · skip
              exact le_ret (by first | rfl | (simp only [EN, topic_Filter_out]; done) | (simp only [EN, topic_Filter_out]; rfl))
            · skip
              refine le_cond (by simp only [EN]) (fun _ => ?_) (fun _ => ?_)
              · skip
                exact le_ret (by first | rfl | (simp only [EN, topic_Filter_out]; done) | (simp only [EN, topic_Filter_out]; rfl))
              · skip
                exact ih _ hk6 x3 x4 x5 x6 x15 x16 x17 s4000 (i4000 + (dec s4000 i4000).2)
          · skip
            exact ih _ hk6 x3 x4 x5 x6 x15 x16 x17 s4000 (i4000 + (dec s4000 i4000).2)
      · skip
        refine le_cond rfl (fun _ => ?_) (fun _ => ?_)
        · skip
          refine le_cond rfl (fun _ => ?_) (fun _ => ?_)
          · skip
            exact le_ret (by first | rfl | (simp only [EN, topic_Filter_out]; done) | (simp only [EN, topic_Filter_out]; rfl))
          · skip
            refine le_cond (by simp only [EN]) (fun _ => ?_) (fun _ => ?_)
            · skip
              exact le_ret (by first | rfl | (simp only [EN, topic_Filter_out]; done) | (simp only [EN, topic_Filter_out]; rfl))
            · skip
              exact ih _ hk6 x3 x4 x5 x6 x15 x16 x17 s4000 (i4000 + (dec s4000 i4000).2)
        · skip
          exact ih _ hk6 x3 x4 x5 x6 x15 x16 x17 s4000 (i4000 + (dec s4000 i4000).2)
    · skip
      exact hk6 x3 x4 x15 x16 (IntKind.wrap .i64 (x17 + 1))
theorem topic_Filter_l6_ok : ∀ (fu : Nat) (x3 : (List Str)) (x4 : Bool) (x15 : (List Str)) (x16 : Int) (x17 : Int), Le (Option.map topic_Filter_out (topic_Filter_l6 fu x3 x4 x15 x16 x17)) (Q66_6 (List.map encS x3) x4 (List.map encS x15) x16 x17) := by
  intro fu
  induction fu with
  | zero => intros; exact le_none
  | succ fu ih =>
    intro x3 x4 x15 x16 x17
    refine Le.trans ?_ (le_of_eq ((lab_realC Cr66).trans (T66_6 _ _ _ _ _  x3 x4 x15 x16 x17)).symm)
    unfold topic_Filter_l6
    refine le_cond rfl (fun _ => ?_) (fun _ => ?_)
    · skip
      refine le_cond (by simp only [EN]) (fun _ => ?_) (fun _ => le_none)
      first | (simp only [EN]; exact topic_Filter_l9_ok fuel _ (ih) x3 x4 x17 (List.getD x15 (Int.toNat x17) default) x15 x16 x17 (List.getD x15 (Int.toNat x17) default) 0) | exact topic_Filter_l9_ok fuel _ (ih) x3 x4 x17 (List.getD x15 (Int.toNat x17) default) x15 x16 x17 (List.getD x15 (Int.toNat x17) default) 0
    · skip
      exact le_ret (by first | rfl | (simp only [EN, topic_Filter_out]; done) | (simp only [EN, topic_Filter_out]; rfl))
theorem topic_Filter_ok (p0 : Str) : Le (Option.map topic_Filter_out (topic_Filter p0)) (callW SE 66 [.d (.str p0)] [] []) := by
  refine le_bodyC Cr66 ?_
  refine Le.trans ?_ (le_of_eq (T66 _ _ _ _ _  p0).symm)
  unfold topic_Filter
  refine le_call (good := good) (fun y => ⟨y, rfl⟩) topic_sized_inj (topic_sized_ok p0) (fun r0 _ => ?_)
  refine le_cond rfl (fun _ => ?_) (fun _ => ?_)
  · skip
    exact le_ret (by first | rfl | (simp only [EN, topic_Filter_out]; done) | (simp only [EN, topic_Filter_out]; rfl))
  · skip
    refine le_call (good := good) (fun y => ⟨y, rfl⟩) topic_Levels_inj (topic_Levels_ok p0) (fun r1 _ => ?_)
    first | (simp only [EN]; exact topic_Filter_l6_ok fuel r1 true r1 (List.length r1 : Int) 0) | exact topic_Filter_l6_ok fuel r1 true r1 (List.length r1 : Int) 0
def C67 (Γ : Fun) (γ80 : Gm (Bool)) : CFun := updC (bindC Γ) 80 stringslite_HasPrefix_out γ80
theorem T67 (Γ : Fun) (γ80 : Gm (Bool)) (Λ2 J : Lam) (p0 : Str) (p1 : Str) : bodyC SE (C67 Γ γ80) Λ2 J 67 [.d (.str p0), .d (.str p1)] [] [] =
  γ80 [.d (.str p0), .d (.str p1)] [] [] fun r0 =>
  (some (.ret [.d (.bool r0)] [] [])) := by kernel_rfl
abbrev X67 : CFun := C67 (callG SE good) (callT SE good 80 stringslite_HasPrefix_out)
theorem Cr67 : C67 (callG SE good) (callT SE good 80 stringslite_HasPrefix_out) = bindC (callG SE good) := by unfold C67; rw [updC_real (fun _ h => h)]
theorem strings_HasPrefix_ok (p0 : Str) (p1 : Str) : Le (Option.map strings_HasPrefix_out (strings_HasPrefix p0 p1)) (callW SE 67 [.d (.str p0), .d (.str p1)] [] []) := by
  refine le_bodyC Cr67 ?_
  refine Le.trans ?_ (le_of_eq (T67 _ _ _ _  p0 p1).symm)
  unfold strings_HasPrefix
  refine le_call (good := good) (fun y => ⟨y, rfl⟩) stringslite_HasPrefix_inj (stringslite_HasPrefix_ok p0 p1) (fun r0 _ => ?_)
  exact le_ret (by first | rfl | (simp only [EN, strings_HasPrefix_out]; done) | (simp only [EN, strings_HasPrefix_out]; rfl))
def C65 (Γ : Fun) (γ77 : Gm (Str × Bool)) (γ78 : Gm (Str × Str × Bool)) (γ52 : Gm (Bool)) (γ66 : Gm (Bool)) (γ67 : Gm (Bool)) : CFun := updC (updC (updC (updC (updC (bindC Γ) 77 strings_CutPrefix_out γ77) 78 strings_Cut_out γ78) 52 topic_Name_out γ52) 66 topic_Filter_out γ66) 67 strings_HasPrefix_out γ67
theorem T65 (Γ : Fun) (γ77 : Gm (Str × Bool)) (γ78 : Gm (Str × Str × Bool)) (γ52 : Gm (Bool)) (γ66 : Gm (Bool)) (γ67 : Gm (Bool)) (Λ2 J : Lam) (p0 : Str) : bodyC SE (C65 Γ γ77 γ78 γ52 γ66 γ67) Λ2 J 65 [.d (.str p0)] [] [] =
  γ77 [.d (.str p0), .d (.str ([36, 115, 104, 97, 114, 101, 47] : Str))] [] [] fun r0 =>
  cond (!r0.2) (
   (some (.ret [.d (.str ([] : Str)), .d (.str ([] : Str)), .d (.bool false)] [] []))) (
  γ78 [.d (.str r0.1), .d (.str ([47] : Str))] [] [] fun r1 =>
  cond (!r1.2.2) (
   (some (.ret [.d (.str ([] : Str)), .d (.str ([] : Str)), .d (.bool false)] [] []))) (
  γ52 [.d (.str r1.1)] [] [] fun r2 =>
  cond (!r2) (
   (some (.ret [.d (.str ([] : Str)), .d (.str ([] : Str)), .d (.bool false)] [] []))) (
  γ66 [.d (.str r1.2.1)] [] [] fun r3 =>
  cond (!r3) (
   (some (.ret [.d (.str ([] : Str)), .d (.str ([] : Str)), .d (.bool false)] [] []))) (
  γ67 [.d (.str r1.2.1), .d (.str ([36, 115, 104, 97, 114, 101, 47] : Str))] [] [] fun r4 =>
  cond r4 (
   (some (.ret [.d (.str ([] : Str)), .d (.str ([] : Str)), .d (.bool false)] [] []))) (
  (some (.ret [.d (.str r1.1), .d (.str r1.2.1), .d (.bool true)] [] []))))))) := by kernel_rfl
abbrev X65 : CFun := C65 (callG SE good) (callT SE good 77 strings_CutPrefix_out) (callT SE good 78 strings_Cut_out) (callT SE good 52 topic_Name_out) (callT SE good 66 topic_Filter_out) (callT SE good 67 strings_HasPrefix_out)
theorem Cr65 : C65 (callG SE good) (callT SE good 77 strings_CutPrefix_out) (callT SE good 78 strings_Cut_out) (callT SE good 52 topic_Name_out) (callT SE good 66 topic_Filter_out) (callT SE good 67 strings_HasPrefix_out) = bindC (callG SE good) := by unfold C65; rw [updC_real (fun _ h => h), updC_real (fun _ h => h), updC_real (fun _ h => h), updC_real (fun _ h => h), updC_real (fun _ h => h)]
theorem topic_Shared_ok (p0 : Str) : Le (Option.map topic_Shared_out (topic_Shared p0)) (callW SE 65 [.d (.str p0)] [] []) := by
  refine le_bodyC Cr65 ?_
  refine Le.trans ?_ (le_of_eq (T65 _ _ _ _ _ _ _ _  p0).symm)
  unfold topic_Shared
  refine le_call (good := good) (fun y => ⟨y, rfl⟩) strings_CutPrefix_inj (strings_CutPrefix_ok p0 ([36, 115, 104, 97, 114, 101, 47] : Str)) (fun r0 _ => ?_)
  refine le_cond rfl (fun _ => ?_) (fun _ => ?_)
  · skip
    exact le_ret (by first | rfl | (simp only [EN, topic_Shared_out]; done) | (simp only [EN, topic_Shared_out]; rfl))
  · skip
    refine le_call (good := good) (fun y => ⟨y, rfl⟩) strings_Cut_inj (strings_Cut_ok r0.1 ([47] : Str)) (fun r1 _ => ?_)
    refine le_cond rfl (fun _ => ?_) (fun _ => ?_)
    · skip
      exact le_ret (by first | rfl | (simp only [EN, topic_Shared_out]; done) | (simp only [EN, topic_Shared_out]; rfl))
    · skip
      refine le_call (good := good) (fun y => ⟨y, rfl⟩) topic_Name_inj (topic_Name_ok r1.1) (fun r2 _ => ?_)
      refine le_cond rfl (fun _ => ?_) (fun _ => ?_)
      · skip
        exact le_ret (by first | rfl | (simp only [EN, topic_Shared_out]; done) | (simp only [EN, topic_Shared_out]; rfl))
      · skip
        refine le_call (good := good) (fun y => ⟨y, rfl⟩) topic_Filter_inj (topic_Filter_ok r1.2.1) (fun r3 _ => ?_)
        refine le_cond rfl (fun _ => ?_) (fun _ => ?_)
        · skip
          exact le_ret (by first | rfl | (simp only [EN, topic_Shared_out]; done) | (simp only [EN, topic_Shared_out]; rfl))
        · skip
          refine le_call (good := good) (fun y => ⟨y, rfl⟩) strings_HasPrefix_inj (strings_HasPrefix_ok r1.2.1 ([36, 115, 104, 97, 114, 101, 47] : Str)) (fun r4 _ => ?_)
          refine le_cond rfl (fun _ => ?_) (fun _ => ?_)
          · skip
            exact le_ret (by first | rfl | (simp only [EN, topic_Shared_out]; done) | (simp only [EN, topic_Shared_out]; rfl))
          · skip
            exact le_ret (by first | rfl | (simp only [EN, topic_Shared_out]; done) | (simp only [EN, topic_Shared_out]; rfl))
def C55 (Γ : Fun) (γ65 : Gm (Str × Str × Bool)) (γ66 : Gm (Bool)) (γ67 : Gm (Bool)) : CFun := updC (updC (updC (bindC Γ) 65 topic_Shared_out γ65) 66 topic_Filter_out γ66) 67 strings_HasPrefix_out γ67
theorem T55 (Γ : Fun) (γ65 : Gm (Str × Str × Bool)) (γ66 : Gm (Bool)) (γ67 : Gm (Bool)) (Λ2 J : Lam) (p0 : Str) : bodyC SE (C55 Γ γ65 γ66 γ67) Λ2 J 55 [.d (.str p0)] [] [] =
  γ65 [.d (.str p0)] [] [] fun r0 =>
  cond r0.2.2 (
   (some (.ret [.d (.bool true), .d (.bool true)] [] []))) (
  γ66 [.d (.str p0)] [] [] fun r1 =>
  cond r1 (
   γ67 [.d (.str p0), .d (.str ([36, 115, 104, 97, 114, 101, 47] : Str))] [] [] fun r2 =>
   (some (.ret [.d (.bool (!r2)), .d (.bool false)] [] []))) (
  (some (.ret [.d (.bool false), .d (.bool false)] [] [])))) := by kernel_rfl
abbrev X55 : CFun := C55 (callG SE good) (callT SE good 65 topic_Shared_out) (callT SE good 66 topic_Filter_out) (callT SE good 67 strings_HasPrefix_out)
theorem Cr55 : C55 (callG SE good) (callT SE good 65 topic_Shared_out) (callT SE good 66 topic_Filter_out) (callT SE good 67 strings_HasPrefix_out) = bindC (callG SE good) := by unfold C55; rw [updC_real (fun _ h => h), updC_real (fun _ h => h), updC_real (fun _ h => h)]
theorem packet_wanted_ok (p0 : Str) : Le (Option.map packet_wanted_out (packet_wanted p0)) (callW SE 55 [.d (.str p0)] [] []) := by
  refine le_bodyC Cr55 ?_
  refine Le.trans ?_ (le_of_eq (T55 _ _ _ _ _ _  p0).symm)
  unfold packet_wanted
  refine le_call (good := good) (fun y => ⟨y, rfl⟩) topic_Shared_inj (topic_Shared_ok p0) (fun r0 _ => ?_)
  refine le_cond rfl (fun _ => ?_) (fun _ => ?_)
  · skip
    exact le_ret (by first | rfl | (simp only [EN, packet_wanted_out]; done) | (simp only [EN, packet_wanted_out]; rfl))
  · skip
    refine le_call (good := good) (fun y => ⟨y, rfl⟩) topic_Filter_inj (topic_Filter_ok p0) (fun r1 _ => ?_)
    refine le_cond rfl (fun _ => ?_) (fun _ => ?_)
    · skip
      refine le_call (good := good) (fun y => ⟨y, rfl⟩) strings_HasPrefix_inj (strings_HasPrefix_ok p0 ([36, 115, 104, 97, 114, 101, 47] : Str)) (fun r2 _ => ?_)
      exact le_ret (by first | rfl | (simp only [EN, packet_wanted_out]; done) | (simp only [EN, packet_wanted_out]; rfl))
    · skip
      exact le_ret (by first | rfl | (simp only [EN, packet_wanted_out]; done) | (simp only [EN, packet_wanted_out]; rfl))
def C30 (Γ : Fun) (γ54 : Gm (Int)) (γ55 : Gm (Bool × Bool)) (γ24 : Gm (Bool)) : CFun := updC (updC (updC (bindC Γ) 54 packet_counted_out γ54) 55 packet_wanted_out γ55) 24 packet_is_out γ24
def R30_5 (C : CFun) (Λ2 J : Lam) (a0 : (List (List D))) (a1 : Int) (a2 : Int) : Res := lab SE C Λ2 J 30 0 [1, 1, 0, 1, 0] (stoOf [(18, .d (.sl api_Sub.ks a0)), (19, .d (.int .i64 a1)), (20, .d (.int .i64 a2))] [] [] [] [])
theorem T30 (Γ : Fun) (γ54 : Gm (Int)) (γ55 : Gm (Bool × Bool)) (γ24 : Gm (Bool)) (Λ2 J : Lam) (p0 : api_Packet) : bodyC SE (C30 Γ γ54 γ55 γ24) Λ2 J 30 [api_Packet.av p0] [] [] =
  γ54 [.d (.int .i64 p0.ID), .d (.int .i64 (List.length (List.map api_Sub.enc p0.Subs) : Int))] [] [] fun r0 =>
  cond (r0 != 0) (
   (some (.ret [.d (.int .i64 r0)] [] []))) (
  R30_5 (C30 Γ γ54 γ55 γ24) Λ2 J (List.map api_Sub.enc p0.Subs) (List.length (List.map api_Sub.enc p0.Subs) : Int) 0) := by kernel_rfl
theorem T30_5 (Γ : Fun) (γ54 : Gm (Int)) (γ55 : Gm (Bool × Bool)) (γ24 : Gm (Bool)) (Λ2 J : Lam) (x18 : (List api_Sub)) (x19 : Int) (x20 : Int) : labU SE (C30 Γ γ54 γ55 γ24) Λ2 J 30 0 [1, 1, 0, 1, 0] (stoOf [(18, .d (.sl api_Sub.ks (List.map api_Sub.enc x18))), (19, .d (.int .i64 x19)), (20, .d (.int .i64 x20))] [] [] [] []) =
  cond (decide (x20 < x19)) (
   cond (decide (0 ≤ x20) && decide (x20 < (List.length (List.map api_Sub.enc x18) : Int))) (
    γ55 [.d (.str (dStr (cellAt (elemAt (List.map api_Sub.enc x18) (Int.toNat x20)) 0)))] [] [] fun r1 =>
    cond (!r1.1) (
     (some (.ret [.d (.int .i64 13)] [] []))) (
    γ24 [.d (.int .i64 (dInt (cellAt (elemAt (List.map api_Sub.enc x18) (Int.toNat x20)) 1))), .d (.int .i64 0), .d (.int .i64 2)] [] [] fun r2 =>
    cond (!r2) (
     (some (.ret [.d (.int .i64 14)] [] []))) (
    cond (dBool (cellAt (elemAt (List.map api_Sub.enc x18) (Int.toNat x20)) 2)) (
     cond r1.2 (
      (some (.ret [.d (.int .i64 28)] [] []))) (
     R30_5 (C30 Γ γ54 γ55 γ24) Λ2 J (List.map api_Sub.enc x18) x19 (IntKind.wrap .i64 (x20 + 1)))) (
    R30_5 (C30 Γ γ54 γ55 γ24) Λ2 J (List.map api_Sub.enc x18) x19 (IntKind.wrap .i64 (x20 + 1)))))) none) (
  (some (.ret [.d (.int .i64 0)] [] []))) := by kernel_rfl
abbrev X30 : CFun := C30 (callG SE good) (callT SE good 54 packet_counted_out) (callT SE good 55 packet_wanted_out) (callT SE good 24 packet_is_out)
theorem Cr30 : C30 (callG SE good) (callT SE good 54 packet_counted_out) (callT SE good 55 packet_wanted_out) (callT SE good 24 packet_is_out) = bindC (callG SE good) := by unfold C30; rw [updC_real (fun _ h => h), updC_real (fun _ h => h), updC_real (fun _ h => h)]
noncomputable abbrev Q30_5 (a0 : (List (List D))) (a1 : Int) (a2 : Int) : Res := R30_5 X30 (lam2 SE (callG SE good) (SE.hl 30) (SE.hr 30)) (J0 SE X30) a0 a1 a2
theorem packet_subscribe_l5_ok : ∀ (fu : Nat) (x18 : (List api_Sub)) (x19 : Int) (x20 : Int), Le (Option.map packet_subscribe_out (packet_subscribe_l5 fu x18 x19 x20)) (Q30_5 (List.map api_Sub.enc x18) x19 x20) := by
  intro fu
  induction fu with
  | zero => intros; exact le_none
  | succ fu ih =>
    intro x18 x19 x20
    refine Le.trans ?_ (le_of_eq ((lab_realC Cr30).trans (T30_5 _ _ _ _ _ _  x18 x19 x20)).symm)
    unfold packet_subscribe_l5
    refine le_cond rfl (fun _ => ?_) (fun _ => ?_)
    · skip
      refine le_cond (by simp only [EN]) (fun _ => ?_) (fun _ => le_none)
      refine le_call (good := good) (fun y => ⟨y, rfl⟩) packet_wanted_inj (by first | (simp only [EN]; exact packet_wanted_ok ((List.getD x18 (Int.toNat x20) default).Filter)) | exact packet_wanted_ok ((List.getD x18 (Int.toNat x20) default).Filter)) (fun r1 _ => ?_)
      refine le_cond rfl (fun _ => ?_) (fun _ => ?_)
      · skip
        exact le_ret (by first | rfl | (simp only [EN, packet_subscribe_out]; done) | (simp only [EN, packet_subscribe_out]; rfl))
      · skip
        refine le_call (good := good) (fun y => ⟨y, rfl⟩) packet_is_inj (by first | (simp only [EN]; exact packet_is_ok ((List.getD x18 (Int.toNat x20) default).Level) 0 2) | exact packet_is_ok ((List.getD x18 (Int.toNat x20) default).Level) 0 2) (fun r2 _ => ?_)
        refine le_cond rfl (fun _ => ?_) (fun _ => ?_)
        · skip
          exact le_ret (by first | rfl | (simp only [EN, packet_subscribe_out]; done) | (simp only [EN, packet_subscribe_out]; rfl))
        · skip
          refine le_cond (by simp only [EN]) (fun _ => ?_) (fun _ => ?_)
          · skip
            refine le_cond rfl (fun _ => ?_) (fun _ => ?_)
            · skip
              exact le_ret (by first | rfl | (simp only [EN, packet_subscribe_out]; done) | (simp only [EN, packet_subscribe_out]; rfl))
            · skip
              exact ih x18 x19 (IntKind.wrap .i64 (x20 + 1))
          · skip
            exact ih x18 x19 (IntKind.wrap .i64 (x20 + 1))
    · skip
      exact le_ret (by first | rfl | (simp only [EN, packet_subscribe_out]; done) | (simp only [EN, packet_subscribe_out]; rfl))
theorem packet_subscribe_ok (p0 : api_Packet) : Le (Option.map packet_subscribe_out (packet_subscribe p0)) (callW SE 30 [api_Packet.av p0] [] []) := by
  refine le_bodyC Cr30 ?_
  refine Le.trans ?_ (le_of_eq (T30 _ _ _ _ _ _  p0).symm)
  unfold packet_subscribe
  refine le_call (good := good) (fun y => ⟨y, rfl⟩) packet_counted_inj (by first | (simp only [EN]; exact packet_counted_ok p0.ID (List.length p0.Subs : Int)) | exact packet_counted_ok p0.ID (List.length p0.Subs : Int)) (fun r0 _ => ?_)
  refine le_cond rfl (fun _ => ?_) (fun _ => ?_)
  · skip
    exact le_ret (by first | rfl | (simp only [EN, packet_subscribe_out]; done) | (simp only [EN, packet_subscribe_out]; rfl))
  · skip
    first | (simp only [EN]; exact packet_subscribe_l5_ok fuel p0.Subs (List.length p0.Subs : Int) 0) | exact packet_subscribe_l5_ok fuel p0.Subs (List.length p0.Subs : Int) 0
def C31 (Γ : Fun) (γ54 : Gm (Int)) (γ27 : Gm (Bool)) : CFun := updC (updC (bindC Γ) 54 packet_counted_out γ54) 27 packet_code_out γ27
def R31_5 (C : CFun) (Λ2 J : Lam) (a0 : (List (List D))) (a1 : Int) (a2 : Int) : Res := lab SE C Λ2 J 31 0 [1, 1, 0, 1, 0] (stoOf [(16, .d (.sl [.int .i64] a0)), (17, .d (.int .i64 a1)), (18, .d (.int .i64 a2))] [] [] [] [])
theorem T31 (Γ : Fun) (γ54 : Gm (Int)) (γ27 : Gm (Bool)) (Λ2 J : Lam) (p0 : api_Packet) : bodyC SE (C31 Γ γ54 γ27) Λ2 J 31 [api_Packet.av p0] [] [] =
  γ54 [.d (.int .i64 p0.ID), .d (.int .i64 (List.length (List.map (encI .i64) p0.Codes) : Int))] [] [] fun r0 =>
  cond (r0 != 0) (
   (some (.ret [.d (.int .i64 r0)] [] []))) (
  R31_5 (C31 Γ γ54 γ27) Λ2 J (List.map (encI .i64) p0.Codes) (List.length (List.map (encI .i64) p0.Codes) : Int) 0) := by kernel_rfl
theorem T31_5 (Γ : Fun) (γ54 : Gm (Int)) (γ27 : Gm (Bool)) (Λ2 J : Lam) (x16 : (List Int)) (x17 : Int) (x18 : Int) : labU SE (C31 Γ γ54 γ27) Λ2 J 31 0 [1, 1, 0, 1, 0] (stoOf [(16, .d (.sl [.int .i64] (List.map (encI .i64) x16))), (17, .d (.int .i64 x17)), (18, .d (.int .i64 x18))] [] [] [] []) =
  cond (decide (x18 < x17)) (
   cond (decide (0 ≤ x18) && decide (x18 < (List.length (List.map (encI .i64) x16) : Int))) (
    γ27 [.d (.int .i64 (dInt (cellAt (elemAt (List.map (encI .i64) x16) (Int.toNat x18)) 0)))] [] [] fun r1 =>
    cond (!r1) (
     (some (.ret [.d (.int .i64 1)] [] []))) (
    R31_5 (C31 Γ γ54 γ27) Λ2 J (List.map (encI .i64) x16) x17 (IntKind.wrap .i64 (x18 + 1)))) none) (
  (some (.ret [.d (.int .i64 0)] [] []))) := by kernel_rfl
abbrev X31 : CFun := C31 (callG SE good) (callT SE good 54 packet_counted_out) (callT SE good 27 packet_code_out)
theorem Cr31 : C31 (callG SE good) (callT SE good 54 packet_counted_out) (callT SE good 27 packet_code_out) = bindC (callG SE good) := by unfold C31; rw [updC_real (fun _ h => h), updC_real (fun _ h => h)]
noncomputable abbrev Q31_5 (a0 : (List (List D))) (a1 : Int) (a2 : Int) : Res := R31_5 X31 (lam2 SE (callG SE good) (SE.hl 31) (SE.hr 31)) (J0 SE X31) a0 a1 a2
theorem packet_codes_l5_ok : ∀ (fu : Nat) (x16 : (List Int)) (x17 : Int) (x18 : Int), Le (Option.map packet_codes_out (packet_codes_l5 fu x16 x17 x18)) (Q31_5 (List.map (encI .i64) x16) x17 x18) := by
  intro fu
  induction fu with
  | zero => intros; exact le_none
  | succ fu ih =>
    intro x16 x17 x18
    refine Le.trans ?_ (le_of_eq ((lab_realC Cr31).trans (T31_5 _ _ _ _ _  x16 x17 x18)).symm)
    unfold packet_codes_l5
    refine le_cond rfl (fun _ => ?_) (fun _ => ?_)
    · skip
      refine le_cond (by simp only [EN]) (fun _ => ?_) (fun _ => le_none)
      refine le_call (good := good) (fun y => ⟨y, rfl⟩) packet_code_inj (by first | (simp only [EN]; exact packet_code_ok (List.getD x16 (Int.toNat x18) default)) | exact packet_code_ok (List.getD x16 (Int.toNat x18) default)) (fun r1 _ => ?_)
      refine le_cond rfl (fun _ => ?_) (fun _ => ?_)
      · skip
        exact le_ret (by first | rfl | (simp only [EN, packet_codes_out]; done) | (simp only [EN, packet_codes_out]; rfl))
      · skip
        exact ih x16 x17 (IntKind.wrap .i64 (x18 + 1))
    · skip
      exact le_ret (by first | rfl | (simp only [EN, packet_codes_out]; done) | (simp only [EN, packet_codes_out]; rfl))
theorem packet_codes_ok (p0 : api_Packet) : Le (Option.map packet_codes_out (packet_codes p0)) (callW SE 31 [api_Packet.av p0] [] []) := by
  refine le_bodyC Cr31 ?_
  refine Le.trans ?_ (le_of_eq (T31 _ _ _ _ _  p0).symm)
  unfold packet_codes
  refine le_call (good := good) (fun y => ⟨y, rfl⟩) packet_counted_inj (by first | (simp only [EN]; exact packet_counted_ok p0.ID (List.length p0.Codes : Int)) | exact packet_counted_ok p0.ID (List.length p0.Codes : Int)) (fun r0 _ => ?_)
  refine le_cond rfl (fun _ => ?_) (fun _ => ?_)
  · skip
    exact le_ret (by first | rfl | (simp only [EN, packet_codes_out]; done) | (simp only [EN, packet_codes_out]; rfl))
  · skip
    first | (simp only [EN]; exact packet_codes_l5_ok fuel p0.Codes (List.length p0.Codes : Int) 0) | exact packet_codes_l5_ok fuel p0.Codes (List.length p0.Codes : Int) 0
def C32 (Γ : Fun) (γ54 : Gm (Int)) (γ55 : Gm (Bool × Bool)) : CFun := updC (updC (bindC Γ) 54 packet_counted_out γ54) 55 packet_wanted_out γ55
def R32_5 (C : CFun) (Λ2 J : Lam) (a0 : (List (List D))) (a1 : Int) (a2 : Int) : Res := lab SE C Λ2 J 32 0 [1, 1, 0, 1, 0] (stoOf [(18, .d (.sl [.str] a0)), (19, .d (.int .i64 a1)), (20, .d (.int .i64 a2))] [] [] [] [])
theorem T32 (Γ : Fun) (γ54 : Gm (Int)) (γ55 : Gm (Bool × Bool)) (Λ2 J : Lam) (p0 : api_Packet) : bodyC SE (C32 Γ γ54 γ55) Λ2 J 32 [api_Packet.av p0] [] [] =
  γ54 [.d (.int .i64 p0.ID), .d (.int .i64 (List.length (List.map encS p0.Filters) : Int))] [] [] fun r0 =>
  cond (r0 != 0) (
   (some (.ret [.d (.int .i64 r0)] [] []))) (
  R32_5 (C32 Γ γ54 γ55) Λ2 J (List.map encS p0.Filters) (List.length (List.map encS p0.Filters) : Int) 0) := by kernel_rfl
theorem T32_5 (Γ : Fun) (γ54 : Gm (Int)) (γ55 : Gm (Bool × Bool)) (Λ2 J : Lam) (x18 : (List Str)) (x19 : Int) (x20 : Int) : labU SE (C32 Γ γ54 γ55) Λ2 J 32 0 [1, 1, 0, 1, 0] (stoOf [(18, .d (.sl [.str] (List.map encS x18))), (19, .d (.int .i64 x19)), (20, .d (.int .i64 x20))] [] [] [] []) =
  cond (decide (x20 < x19)) (
   cond (decide (0 ≤ x20) && decide (x20 < (List.length (List.map encS x18) : Int))) (
    γ55 [.d (.str (dStr (cellAt (elemAt (List.map encS x18) (Int.toNat x20)) 0)))] [] [] fun r1 =>
    cond (!r1.1) (
     (some (.ret [.d (.int .i64 13)] [] []))) (
    R32_5 (C32 Γ γ54 γ55) Λ2 J (List.map encS x18) x19 (IntKind.wrap .i64 (x20 + 1)))) none) (
  (some (.ret [.d (.int .i64 0)] [] []))) := by kernel_rfl
abbrev X32 : CFun := C32 (callG SE good) (callT SE good 54 packet_counted_out) (callT SE good 55 packet_wanted_out)
theorem Cr32 : C32 (callG SE good) (callT SE good 54 packet_counted_out) (callT SE good 55 packet_wanted_out) = bindC (callG SE good) := by unfold C32; rw [updC_real (fun _ h => h), updC_real (fun _ h => h)]
noncomputable abbrev Q32_5 (a0 : (List (List D))) (a1 : Int) (a2 : Int) : Res := R32_5 X32 (lam2 SE (callG SE good) (SE.hl 32) (SE.hr 32)) (J0 SE X32) a0 a1 a2
theorem packet_unsubscribe_l5_ok : ∀ (fu : Nat) (x18 : (List Str)) (x19 : Int) (x20 : Int), Le (Option.map packet_unsubscribe_out (packet_unsubscribe_l5 fu x18 x19 x20)) (Q32_5 (List.map encS x18) x19 x20) := by
  intro fu
  induction fu with
  | zero => intros; exact le_none
  | succ fu ih =>
    intro x18 x19 x20
    refine Le.trans ?_ (le_of_eq ((lab_realC Cr32).trans (T32_5 _ _ _ _ _  x18 x19 x20)).symm)
    unfold packet_unsubscribe_l5
    refine le_cond rfl (fun _ => ?_) (fun _ => ?_)
    · skip
      refine le_cond (by simp only [EN]) (fun _ => ?_) (fun _ => le_none)
      refine le_call (good := good) (fun y => ⟨y, rfl⟩) packet_wanted_inj (by first | (simp only [EN]; exact packet_wanted_ok (List.getD x18 (Int.toNat x20) default)) | exact packet_wanted_ok (List.getD x18 (Int.toNat x20) default)) (fun r1 _ => ?_)
      refine le_cond rfl (fun _ => ?_) (fun _ => ?_)
      · skip
        exact le_ret (by first | rfl | (simp only [EN, packet_unsubscribe_out]; done) | (simp only [EN, packet_unsubscribe_out]; rfl))
      · skip
        exact ih x18 x19 (IntKind.wrap .i64 (x20 + 1))
    · skip
      exact le_ret (by first | rfl | (simp only [EN, packet_unsubscribe_out]; done) | (simp only [EN, packet_unsubscribe_out]; rfl))
theorem packet_unsubscribe_ok (p0 : api_Packet) : Le (Option.map packet_unsubscribe_out (packet_unsubscribe p0)) (callW SE 32 [api_Packet.av p0] [] []) := by
  refine le_bodyC Cr32 ?_
  refine Le.trans ?_ (le_of_eq (T32 _ _ _ _ _  p0).symm)
  unfold packet_unsubscribe
  refine le_call (good := good) (fun y => ⟨y, rfl⟩) packet_counted_inj (by first | (simp only [EN]; exact packet_counted_ok p0.ID (List.length p0.Filters : Int)) | exact packet_counted_ok p0.ID (List.length p0.Filters : Int)) (fun r0 _ => ?_)
  refine le_cond rfl (fun _ => ?_) (fun _ => ?_)
  · skip
    exact le_ret (by first | rfl | (simp only [EN, packet_unsubscribe_out]; done) | (simp only [EN, packet_unsubscribe_out]; rfl))
  · skip
    first | (simp only [EN]; exact packet_unsubscribe_l5_ok fuel p0.Filters (List.length p0.Filters : Int) 0) | exact packet_unsubscribe_l5_ok fuel p0.Filters (List.length p0.Filters : Int) 0
def C11 (Γ : Fun) (γ24 : Gm (Bool)) (γ25 : Gm (api_Packet)) (γ17 : Gm (Bool)) (γ26 : Gm (Int)) (γ27 : Gm (Bool)) (γ28 : Gm (Int)) (γ29 : Gm (Int)) (γ30 : Gm (Int)) (γ31 : Gm (Int)) (γ32 : Gm (Int)) : CFun := updC (updC (updC (updC (updC (updC (updC (updC (updC (updC (bindC Γ) 24 packet_is_out γ24) 25 packet_used_out γ25) 17 packet_Same_out γ17) 26 packet_connect_out γ26) 27 packet_code_out γ27) 28 packet_publish_out γ28) 29 packet_ident_out γ29) 30 packet_subscribe_out γ30) 31 packet_codes_out γ31) 32 packet_unsubscribe_out γ32
theorem T11 (Γ : Fun) (γ24 : Gm (Bool)) (γ25 : Gm (api_Packet)) (γ17 : Gm (Bool)) (γ26 : Gm (Int)) (γ27 : Gm (Bool)) (γ28 : Gm (Int)) (γ29 : Gm (Int)) (γ30 : Gm (Int)) (γ31 : Gm (Int)) (γ32 : Gm (Int)) (Λ2 J : Lam) (p0 : api_Packet) : bodyC SE (C11 Γ γ24 γ25 γ17 γ26 γ27 γ28 γ29 γ30 γ31 γ32) Λ2 J 11 [api_Packet.av p0] [] [] =
  γ24 [.d (.int .i64 p0.Kind), .d (.int .i64 1), .d (.int .i64 14)] [] [] fun r0 =>
  cond (!r0) (
   (some (.ret [.d (.int .i64 10)] [] []))) (
  γ25 [api_Packet.av p0] [] [] fun r1 =>
  γ17 [api_Packet.av p0, api_Packet.av r1] [] [] fun r2 =>
  cond (!r2) (
   (some (.ret [.d (.int .i64 28)] [] []))) (
  cond (p0.Kind == 1) (
   γ26 [api_Packet.av p0] [] [] fun r3 =>
   (some (.ret [.d (.int .i64 r3)] [] []))) (
  cond (p0.Kind == 2) (
   γ27 [.d (.int .i64 p0.Code)] [] [] fun r4 =>
   cond (!r4) (
    (some (.ret [.d (.int .i64 1)] [] []))) (
   cond p0.Present (
    cond (p0.Code != 0) (
     (some (.ret [.d (.int .i64 28)] [] []))) (
    (some (.ret [.d (.int .i64 0)] [] [])))) (
   (some (.ret [.d (.int .i64 0)] [] []))))) (
  cond (p0.Kind == 14) (
   γ27 [.d (.int .i64 p0.Code)] [] [] fun r5 =>
   cond (!r5) (
    (some (.ret [.d (.int .i64 1)] [] []))) (
   cond p0.Present (
    cond (p0.Code != 0) (
     (some (.ret [.d (.int .i64 28)] [] []))) (
    (some (.ret [.d (.int .i64 0)] [] [])))) (
   (some (.ret [.d (.int .i64 0)] [] []))))) (
  cond (p0.Kind == 3) (
   γ28 [api_Packet.av p0] [] [] fun r6 =>
   (some (.ret [.d (.int .i64 r6)] [] []))) (
  cond (p0.Kind == 4) (
   γ29 [.d (.int .i64 p0.ID)] [] [] fun r7 =>
   (some (.ret [.d (.int .i64 r7)] [] []))) (
  cond (p0.Kind == 5) (
   γ29 [.d (.int .i64 p0.ID)] [] [] fun r8 =>
   (some (.ret [.d (.int .i64 r8)] [] []))) (
  cond (p0.Kind == 6) (
   γ29 [.d (.int .i64 p0.ID)] [] [] fun r9 =>
   (some (.ret [.d (.int .i64 r9)] [] []))) (
  cond (p0.Kind == 7) (
   γ29 [.d (.int .i64 p0.ID)] [] [] fun r10 =>
   (some (.ret [.d (.int .i64 r10)] [] []))) (
  cond (p0.Kind == 8) (
   γ30 [api_Packet.av p0] [] [] fun r11 =>
   (some (.ret [.d (.int .i64 r11)] [] []))) (
  cond (p0.Kind == 9) (
   γ31 [api_Packet.av p0] [] [] fun r12 =>
   (some (.ret [.d (.int .i64 r12)] [] []))) (
  cond (p0.Kind == 11) (
   γ31 [api_Packet.av p0] [] [] fun r13 =>
   (some (.ret [.d (.int .i64 r13)] [] []))) (
  cond (p0.Kind == 10) (
   γ32 [api_Packet.av p0] [] [] fun r14 =>
   (some (.ret [.d (.int .i64 r14)] [] []))) (
  (some (.ret [.d (.int .i64 0)] [] [])))))))))))))))) := by kernel_rfl
abbrev X11 : CFun := C11 (callG SE good) (callT SE good 24 packet_is_out) (callT SE good 25 packet_used_out) (callT SE good 17 packet_Same_out) (callT SE good 26 packet_connect_out) (callT SE good 27 packet_code_out) (callT SE good 28 packet_publish_out) (callT SE good 29 packet_ident_out) (callT SE good 30 packet_subscribe_out) (callT SE good 31 packet_codes_out) (callT SE good 32 packet_unsubscribe_out)
theorem Cr11 : C11 (callG SE good) (callT SE good 24 packet_is_out) (callT SE good 25 packet_used_out) (callT SE good 17 packet_Same_out) (callT SE good 26 packet_connect_out) (callT SE good 27 packet_code_out) (callT SE good 28 packet_publish_out) (callT SE good 29 packet_ident_out) (callT SE good 30 packet_subscribe_out) (callT SE good 31 packet_codes_out) (callT SE good 32 packet_unsubscribe_out) = bindC (callG SE good) := by unfold C11; rw [updC_real (fun _ h => h), updC_real (fun _ h => h), updC_real (fun _ h => h), updC_real (fun _ h => h), updC_real (fun _ h => h), updC_real (fun _ h => h), updC_real (fun _ h => h), updC_real (fun _ h => h), updC_real (fun _ h => h), updC_real (fun _ h => h)]
theorem packet_Check_ok (p0 : api_Packet) : Le (Option.map packet_Check_out (packet_Check p0)) (callW SE 11 [api_Packet.av p0] [] []) := by
  refine le_bodyC Cr11 ?_
  refine Le.trans ?_ (le_of_eq (T11 _ _ _ _ _ _ _ _ _ _ _ _ _  p0).symm)
  unfold packet_Check
  refine le_call (good := good) (fun y => ⟨y, rfl⟩) packet_is_inj (packet_is_ok p0.Kind 1 14) (fun r0 _ => ?_)
  refine le_cond rfl (fun _ => ?_) (fun _ => ?_)
  · skip
    exact le_ret (by first | rfl | (simp only [EN, packet_Check_out]; done) | (simp only [EN, packet_Check_out]; rfl))
  · skip
    refine le_call (good := good) (fun y => ⟨y, rfl⟩) packet_used_inj (packet_used_ok p0) (fun r1 _ => ?_)
    refine le_call (good := good) (fun y => ⟨y, rfl⟩) packet_Same_inj (packet_Same_ok p0 r1) (fun r2 _ => ?_)
    refine le_cond rfl (fun _ => ?_) (fun _ => ?_)
    · skip
      exact le_ret (by first | rfl | (simp only [EN, packet_Check_out]; done) | (simp only [EN, packet_Check_out]; rfl))
    · skip
      refine le_cond rfl (fun _ => ?_) (fun _ => ?_)
      · skip
        refine le_call (good := good) (fun y => ⟨y, rfl⟩) packet_connect_inj (packet_connect_ok p0) (fun r3 _ => ?_)
        exact le_ret (by first | rfl | (simp only [EN, packet_Check_out]; done) | (simp only [EN, packet_Check_out]; rfl))
      · skip
        refine le_cond rfl (fun _ => ?_) (fun _ => ?_)
        · skip
          refine le_call (good := good) (fun y => ⟨y, rfl⟩) packet_code_inj (packet_code_ok p0.Code) (fun r4 _ => ?_)
          refine le_cond rfl (fun _ => ?_) (fun _ => ?_)
          · skip
            exact le_ret (by first | rfl | (simp only [EN, packet_Check_out]; done) | (simp only [EN, packet_Check_out]; rfl))
          · skip
            refine le_cond rfl (fun _ => ?_) (fun _ => ?_)
            · skip
              refine le_cond rfl (fun _ => ?_) (fun _ => ?_)
              · skip
                exact le_ret (by first | rfl | (simp only [EN, packet_Check_out]; done) | (simp only [EN, packet_Check_out]; rfl))
              · skip
                exact le_ret (by first | rfl | (simp only [EN, packet_Check_out]; done) | (simp only [EN, packet_Check_out]; rfl))
            · skip
              exact le_ret (by first | rfl | (simp only [EN, packet_Check_out]; done) | (simp only [EN, packet_Check_out]; rfl))
        · skip
          refine le_cond rfl (fun _ => ?_) (fun _ => ?_)
          · skip
            refine le_call (good := good) (fun y => ⟨y, rfl⟩) packet_code_inj (packet_code_ok p0.Code) (fun r5 _ => ?_)
            refine le_cond rfl (fun _ => ?_) (fun _ => ?_)
            · skip
              exact le_ret (by first | rfl | (simp only [EN, packet_Check_out]; done) | (simp only [EN, packet_Check_out]; rfl))
            · skip
              refine le_cond rfl (fun _ => ?_) (fun _ => ?_)
              · skip
                refine le_cond rfl (fun _ => ?_) (fun _ => ?_)
                · skip
                  exact le_ret (by first | rfl | (simp only [EN, packet_Check_out]; done) | (simp only [EN, packet_Check_out]; rfl))
                · skip
                  exact le_ret (by first | rfl | (simp only [EN, packet_Check_out]; done) | (simp only [EN, packet_Check_out]; rfl))
              · skip
                exact le_ret (by first | rfl | (simp only [EN, packet_Check_out]; done) | (simp only [EN, packet_Check_out]; rfl))
          · skip
            refine le_cond rfl (fun _ => ?_) (fun _ => ?_)
            · skip
              refine le_call (good := good) (fun y => ⟨y, rfl⟩) packet_publish_inj (packet_publish_ok p0) (fun r6 _ => ?_)
              exact le_ret (by first | rfl | (simp only [EN, packet_Check_out]; done) | (simp only [EN, packet_Check_out]; rfl))
            · skip
              refine le_cond rfl (fun _ => ?_) (fun _ => ?_)
              · skip
                refine le_call (good := good) (fun y => ⟨y, rfl⟩) packet_ident_inj (packet_ident_ok p0.ID) (fun r7 _ => ?_)
                exact le_ret (by first | rfl | (simp only [EN, packet_Check_out]; done) | (simp only [EN, packet_Check_out]; rfl))
              · skip
                refine le_cond rfl (fun _ => ?_) (fun _ => ?_)
                · skip
                  refine le_call (good := good) (fun y => ⟨y, rfl⟩) packet_ident_inj (packet_ident_ok p0.ID) (fun r8 _ => ?_)
                  exact le_ret (by first | rfl | (simp only [EN, packet_Check_out]; done) | (simp only [EN, packet_Check_out]; rfl))
                · skip
                  refine le_cond rfl (fun _ => ?_) (fun _ => ?_)
                  · skip
                    refine le_call (good := good) (fun y => ⟨y, rfl⟩) packet_ident_inj (packet_ident_ok p0.ID) (fun r9 _ => ?_)
                    exact le_ret (by first | rfl | (simp only [EN, packet_Check_out]; done) | (simp only [EN, packet_Check_out]; rfl))
                  · skip
                    refine le_cond rfl (fun _ => ?_) (fun _ => ?_)
                    · skip
                      refine le_call (good := good) (fun y => ⟨y, rfl⟩) packet_ident_inj (packet_ident_ok p0.ID) (fun r10 _ => ?_)
                      exact le_ret (by first | rfl | (simp only [EN, packet_Check_out]; done) | (simp only [EN, packet_Check_out]; rfl))
                    · skip
                      refine le_cond rfl (fun _ => ?_) (fun _ => ?_)
                      · skip
                        refine le_call (good := good) (fun y => ⟨y, rfl⟩) packet_subscribe_inj (packet_subscribe_ok p0) (fun r11 _ => ?_)
                        exact le_ret (by first | rfl | (simp only [EN, packet_Check_out]; done) | (simp only [EN, packet_Check_out]; rfl))
                      · skip
                        refine le_cond rfl (fun _ => ?_) (fun _ => ?_)
                        · skip
                          refine le_call (good := good) (fun y => ⟨y, rfl⟩) packet_codes_inj (packet_codes_ok p0) (fun r12 _ => ?_)
                          exact le_ret (by first | rfl | (simp only [EN, packet_Check_out]; done) | (simp only [EN, packet_Check_out]; rfl))
                        · skip
                          refine le_cond rfl (fun _ => ?_) (fun _ => ?_)
                          · skip
                            refine le_call (good := good) (fun y => ⟨y, rfl⟩) packet_codes_inj (packet_codes_ok p0) (fun r13 _ => ?_)
                            exact le_ret (by first | rfl | (simp only [EN, packet_Check_out]; done) | (simp only [EN, packet_Check_out]; rfl))
                          · skip
                            refine le_cond rfl (fun _ => ?_) (fun _ => ?_)
                            · skip
                              refine le_call (good := good) (fun y => ⟨y, rfl⟩) packet_unsubscribe_inj (packet_unsubscribe_ok p0) (fun r14 _ => ?_)
                              exact le_ret (by first | rfl | (simp only [EN, packet_Check_out]; done) | (simp only [EN, packet_Check_out]; rfl))
                            · skip
                              exact le_ret (by first | rfl | (simp only [EN, packet_Check_out]; done) | (simp only [EN, packet_Check_out]; rfl))
def C40 (Γ : Fun) (γ24 : Gm (Bool)) : CFun := updC (bindC Γ) 24 packet_is_out γ24
theorem T40 (Γ : Fun) (γ24 : Gm (Bool)) (Λ2 J : Lam) (p0 : Int) : bodyC SE (C40 Γ γ24) Λ2 J 40 [.d (.int .i64 p0)] [] [] =
  γ24 [.d (.int .i64 p0), .d (.int .i64 3), .d (.int .i64 7)] [] [] fun r0 =>
  cond r0 (
   (some (.ret [.d (.bool true)] [] []))) (
  (some (.ret [.d (.bool (p0 == 14))] [] []))) := by kernel_rfl
abbrev X40 : CFun := C40 (callG SE good) (callT SE good 24 packet_is_out)
theorem Cr40 : C40 (callG SE good) (callT SE good 24 packet_is_out) = bindC (callG SE good) := by unfold C40; rw [updC_real (fun _ h => h)]
theorem packet_both_ok (p0 : Int) : Le (Option.map packet_both_out (packet_both p0)) (callW SE 40 [.d (.int .i64 p0)] [] []) := by
  refine le_bodyC Cr40 ?_
  refine Le.trans ?_ (le_of_eq (T40 _ _ _ _  p0).symm)
  unfold packet_both
  refine le_call (good := good) (fun y => ⟨y, rfl⟩) packet_is_inj (packet_is_ok p0 3 7) (fun r0 _ => ?_)
  refine le_cond rfl (fun _ => ?_) (fun _ => ?_)
  · skip
    exact le_ret (by first | rfl | (simp only [EN, packet_both_out]; done) | (simp only [EN, packet_both_out]; rfl))
  · skip
    exact le_ret (by first | rfl | (simp only [EN, packet_both_out]; done) | (simp only [EN, packet_both_out]; rfl))
def C13 (Γ : Fun) (γ40 : Gm (Bool)) : CFun := updC (bindC Γ) 40 packet_both_out γ40
theorem T13 (Γ : Fun) (γ40 : Gm (Bool)) (Λ2 J : Lam) (p0 : Int) : bodyC SE (C13 Γ γ40) Λ2 J 13 [.d (.int .i64 p0)] [] [] =
  γ40 [.d (.int .i64 p0)] [] [] fun r0 =>
  cond r0 (
   (some (.ret [.d (.bool true)] [] []))) (
  cond (p0 == 1) (
   (some (.ret [.d (.bool true)] [] []))) (
  cond (p0 == 8) (
   (some (.ret [.d (.bool true)] [] []))) (
  cond (p0 == 10) (
   (some (.ret [.d (.bool true)] [] []))) (
  (some (.ret [.d (.bool (p0 == 12))] [] [])))))) := by kernel_rfl
abbrev X13 : CFun := C13 (callG SE good) (callT SE good 40 packet_both_out)
theorem Cr13 : C13 (callG SE good) (callT SE good 40 packet_both_out) = bindC (callG SE good) := by unfold C13; rw [updC_real (fun _ h => h)]
theorem packet_Client_ok (p0 : Int) : Le (Option.map packet_Client_out (packet_Client p0)) (callW SE 13 [.d (.int .i64 p0)] [] []) := by
  refine le_bodyC Cr13 ?_
  refine Le.trans ?_ (le_of_eq (T13 _ _ _ _  p0).symm)
  unfold packet_Client
  refine le_call (good := good) (fun y => ⟨y, rfl⟩) packet_both_inj (packet_both_ok p0) (fun r0 _ => ?_)
  refine le_cond rfl (fun _ => ?_) (fun _ => ?_)
  · skip
    exact le_ret (by first | rfl | (simp only [EN, packet_Client_out]; done) | (simp only [EN, packet_Client_out]; rfl))
  · skip
    refine le_cond rfl (fun _ => ?_) (fun _ => ?_)
    · skip
      exact le_ret (by first | rfl | (simp only [EN, packet_Client_out]; done) | (simp only [EN, packet_Client_out]; rfl))
    · skip
      refine le_cond rfl (fun _ => ?_) (fun _ => ?_)
      · skip
        exact le_ret (by first | rfl | (simp only [EN, packet_Client_out]; done) | (simp only [EN, packet_Client_out]; rfl))
      · skip
        refine le_cond rfl (fun _ => ?_) (fun _ => ?_)
        · skip
          exact le_ret (by first | rfl | (simp only [EN, packet_Client_out]; done) | (simp only [EN, packet_Client_out]; rfl))
        · skip
          exact le_ret (by first | rfl | (simp only [EN, packet_Client_out]; done) | (simp only [EN, packet_Client_out]; rfl))
def C15 (Γ : Fun) (γ40 : Gm (Bool)) : CFun := updC (bindC Γ) 40 packet_both_out γ40
theorem T15 (Γ : Fun) (γ40 : Gm (Bool)) (Λ2 J : Lam) (p0 : Int) : bodyC SE (C15 Γ γ40) Λ2 J 15 [.d (.int .i64 p0)] [] [] =
  γ40 [.d (.int .i64 p0)] [] [] fun r0 =>
  cond r0 (
   (some (.ret [.d (.bool true)] [] []))) (
  cond (p0 == 2) (
   (some (.ret [.d (.bool true)] [] []))) (
  cond (p0 == 9) (
   (some (.ret [.d (.bool true)] [] []))) (
  cond (p0 == 11) (
   (some (.ret [.d (.bool true)] [] []))) (
  (some (.ret [.d (.bool (p0 == 13))] [] [])))))) := by kernel_rfl
abbrev X15 : CFun := C15 (callG SE good) (callT SE good 40 packet_both_out)
theorem Cr15 : C15 (callG SE good) (callT SE good 40 packet_both_out) = bindC (callG SE good) := by unfold C15; rw [updC_real (fun _ h => h)]
theorem packet_Broker_ok (p0 : Int) : Le (Option.map packet_Broker_out (packet_Broker p0)) (callW SE 15 [.d (.int .i64 p0)] [] []) := by
  refine le_bodyC Cr15 ?_
  refine Le.trans ?_ (le_of_eq (T15 _ _ _ _  p0).symm)
  unfold packet_Broker
  refine le_call (good := good) (fun y => ⟨y, rfl⟩) packet_both_inj (packet_both_ok p0) (fun r0 _ => ?_)
  refine le_cond rfl (fun _ => ?_) (fun _ => ?_)
  · skip
    exact le_ret (by first | rfl | (simp only [EN, packet_Broker_out]; done) | (simp only [EN, packet_Broker_out]; rfl))
  · skip
    refine le_cond rfl (fun _ => ?_) (fun _ => ?_)
    · skip
      exact le_ret (by first | rfl | (simp only [EN, packet_Broker_out]; done) | (simp only [EN, packet_Broker_out]; rfl))
    · skip
      refine le_cond rfl (fun _ => ?_) (fun _ => ?_)
      · skip
        exact le_ret (by first | rfl | (simp only [EN, packet_Broker_out]; done) | (simp only [EN, packet_Broker_out]; rfl))
      · skip
        refine le_cond rfl (fun _ => ?_) (fun _ => ?_)
        · skip
          exact le_ret (by first | rfl | (simp only [EN, packet_Broker_out]; done) | (simp only [EN, packet_Broker_out]; rfl))
        · skip
          exact le_ret (by first | rfl | (simp only [EN, packet_Broker_out]; done) | (simp only [EN, packet_Broker_out]; rfl))
def C10 (Γ : Fun) (γ21 : Gm (api_Packet)) (γ19 : Gm (api_Packet × Bool)) (γ11 : Gm (Int)) (γ17 : Gm (Bool)) (γ13 : Gm (Bool)) (γ15 : Gm (Bool)) : CFun := updC (updC (updC (updC (updC (updC (bindC Γ) 21 brokerlaw06_publish_out γ21) 19 packet_Answer_out γ19) 11 packet_Check_out γ11) 17 packet_Same_out γ17) 13 packet_Client_out γ13) 15 packet_Broker_out γ15
theorem T10 (Γ : Fun) (γ21 : Gm (api_Packet)) (γ19 : Gm (api_Packet × Bool)) (γ11 : Gm (Int)) (γ17 : Gm (Bool)) (γ13 : Gm (Bool)) (γ15 : Gm (Bool)) (Λ2 J : Lam) : bodyC SE (C10 Γ γ21 γ19 γ11 γ17 γ13 γ15) Λ2 J 10 [] [] [] =
  γ21 [.d (.int .i64 2), .d (.int .i64 7)] [] [] fun r0 =>
  γ19 [api_Packet.av r0] [] [] fun r1 =>
  γ11 [.agg [.d (.int .i64 12), .d (.int .i64 1), .d (.bool false), .d (.str ([] : Str)), .d (.str ([] : Str)), .d (.int .i64 0), .d (.bool false), .d (.int .i64 0), .d (.int .i64 0), .d (.str ([] : Str)), .d (.int .i64 0), .d (.sl api_Prop.ks (List.map api_Prop.enc [])), .d (.str ([] : Str)), .d (.str ([] : Str)), .d (.bool false), .d (.int .i64 0), .d (.int .i64 0), .d (.int .i64 0), .d (.bool false), .d (.int .i64 0), .d (.str ([] : Str)), .d (.str ([] : Str)), .d (.int .i64 0), .d (.bool false), .d (.int .i64 0), .d (.int .i64 0), .d (.str ([] : Str)), .d (.int .i64 0), .d (.sl api_Prop.ks (List.map api_Prop.enc [])), .d (.bool false), .d (.int .i64 0), .d (.sl api_Sub.ks (List.map api_Sub.enc [])), .d (.sl [.str] (List.map encS [])), .d (.sl [.int .i64] (List.map (encI .i64) []))]] [] [] fun r2 =>
  cond (r2 == 28) (
   γ21 [.d (.int .i64 1), .d (.int .i64 0)] [] [] fun r3 =>
   γ11 [api_Packet.av r3] [] [] fun r4 =>
   cond (r4 == 15) (
    γ21 [.d (.int .i64 1), .d (.int .i64 1)] [] [] fun r5 =>
    γ11 [api_Packet.av r5] [] [] fun r6 =>
    cond (r6 == 0) (
     cond r1.2 (
      γ17 [api_Packet.av r1.1, .agg [.d (.int .i64 5), .d (.int .i64 7), .d (.bool false), .d (.str ([] : Str)), .d (.str ([] : Str)), .d (.int .i64 0), .d (.bool false), .d (.int .i64 0), .d (.int .i64 0), .d (.str ([] : Str)), .d (.int .i64 0), .d (.sl api_Prop.ks (List.map api_Prop.enc [])), .d (.str ([] : Str)), .d (.str ([] : Str)), .d (.bool false), .d (.int .i64 0), .d (.int .i64 0), .d (.int .i64 0), .d (.bool false), .d (.int .i64 0), .d (.str ([] : Str)), .d (.str ([] : Str)), .d (.int .i64 0), .d (.bool false), .d (.int .i64 0), .d (.int .i64 0), .d (.str ([] : Str)), .d (.int .i64 0), .d (.sl api_Prop.ks (List.map api_Prop.enc [])), .d (.bool false), .d (.int .i64 0), .d (.sl api_Sub.ks (List.map api_Sub.enc [])), .d (.sl [.str] (List.map encS [])), .d (.sl [.int .i64] (List.map (encI .i64) []))]] [] [] fun r7 =>
      cond r7 (
       γ13 [.d (.int .i64 12)] [] [] fun r8 =>
       cond r8 (
        γ15 [.d (.int .i64 13)] [] [] fun r9 =>
        (some (.ret [.d (.bool r9)] [] []))) (
       (some (.ret [.d (.bool false)] [] [])))) (
      (some (.ret [.d (.bool false)] [] [])))) (
     (some (.ret [.d (.bool false)] [] [])))) (
    (some (.ret [.d (.bool false)] [] [])))) (
   (some (.ret [.d (.bool false)] [] [])))) (
  (some (.ret [.d (.bool false)] [] []))) := by kernel_rfl
abbrev X10 : CFun := C10 (callG SE good) (callT SE good 21 brokerlaw06_publish_out) (callT SE good 19 packet_Answer_out) (callT SE good 11 packet_Check_out) (callT SE good 17 packet_Same_out) (callT SE good 13 packet_Client_out) (callT SE good 15 packet_Broker_out)
theorem Cr10 : C10 (callG SE good) (callT SE good 21 brokerlaw06_publish_out) (callT SE good 19 packet_Answer_out) (callT SE good 11 packet_Check_out) (callT SE good 17 packet_Same_out) (callT SE good 13 packet_Client_out) (callT SE good 15 packet_Broker_out) = bindC (callG SE good) := by unfold C10; rw [updC_real (fun _ h => h), updC_real (fun _ h => h), updC_real (fun _ h => h), updC_real (fun _ h => h), updC_real (fun _ h => h), updC_real (fun _ h => h)]
theorem brokerlaw06_awake_ok : Le (Option.map brokerlaw06_awake_out (brokerlaw06_awake)) (callW SE 10 [] [] []) := by
  refine le_bodyC Cr10 ?_
  refine Le.trans ?_ (le_of_eq (T10 _ _ _ _ _ _ _ _ _ ).symm)
  unfold brokerlaw06_awake
  refine le_call (good := good) (fun y => ⟨y, rfl⟩) brokerlaw06_publish_inj (brokerlaw06_publish_ok 2 7) (fun r0 _ => ?_)
  refine le_call (good := good) (fun y => ⟨y, rfl⟩) packet_Answer_inj (packet_Answer_ok r0) (fun r1 _ => ?_)
  refine le_call (good := good) (fun y => ⟨y, rfl⟩) packet_Check_inj (by first | (simp only [EN]; exact packet_Check_ok ((api_Packet.mk 12 1 false (api_Message.mk ([] : Str) ([] : Str) 0 false 0 0 ([] : Str) 0 ([] : List api_Prop)) ([] : Str) ([] : Str) false 0 0 0 (api_Will.mk false 0 (api_Message.mk ([] : Str) ([] : Str) 0 false 0 0 ([] : Str) 0 ([] : List api_Prop))) false 0 ([] : List api_Sub) ([] : List Str) ([] : List Int)))) | exact packet_Check_ok ((api_Packet.mk 12 1 false (api_Message.mk ([] : Str) ([] : Str) 0 false 0 0 ([] : Str) 0 ([] : List api_Prop)) ([] : Str) ([] : Str) false 0 0 0 (api_Will.mk false 0 (api_Message.mk ([] : Str) ([] : Str) 0 false 0 0 ([] : Str) 0 ([] : List api_Prop))) false 0 ([] : List api_Sub) ([] : List Str) ([] : List Int)))) (fun r2 _ => ?_)
  refine le_cond rfl (fun _ => ?_) (fun _ => ?_)
  · skip
    refine le_call (good := good) (fun y => ⟨y, rfl⟩) brokerlaw06_publish_inj (brokerlaw06_publish_ok 1 0) (fun r3 _ => ?_)
    refine le_call (good := good) (fun y => ⟨y, rfl⟩) packet_Check_inj (packet_Check_ok r3) (fun r4 _ => ?_)
    refine le_cond rfl (fun _ => ?_) (fun _ => ?_)
    · skip
      refine le_call (good := good) (fun y => ⟨y, rfl⟩) brokerlaw06_publish_inj (brokerlaw06_publish_ok 1 1) (fun r5 _ => ?_)
      refine le_call (good := good) (fun y => ⟨y, rfl⟩) packet_Check_inj (packet_Check_ok r5) (fun r6 _ => ?_)
      refine le_cond rfl (fun _ => ?_) (fun _ => ?_)
      · skip
        refine le_cond rfl (fun _ => ?_) (fun _ => ?_)
        · skip
          refine le_call (good := good) (fun y => ⟨y, rfl⟩) packet_Same_inj (by first | (simp only [EN]; exact packet_Same_ok r1.1 ((api_Packet.mk 5 7 false (api_Message.mk ([] : Str) ([] : Str) 0 false 0 0 ([] : Str) 0 ([] : List api_Prop)) ([] : Str) ([] : Str) false 0 0 0 (api_Will.mk false 0 (api_Message.mk ([] : Str) ([] : Str) 0 false 0 0 ([] : Str) 0 ([] : List api_Prop))) false 0 ([] : List api_Sub) ([] : List Str) ([] : List Int)))) | exact packet_Same_ok r1.1 ((api_Packet.mk 5 7 false (api_Message.mk ([] : Str) ([] : Str) 0 false 0 0 ([] : Str) 0 ([] : List api_Prop)) ([] : Str) ([] : Str) false 0 0 0 (api_Will.mk false 0 (api_Message.mk ([] : Str) ([] : Str) 0 false 0 0 ([] : Str) 0 ([] : List api_Prop))) false 0 ([] : List api_Sub) ([] : List Str) ([] : List Int)))) (fun r7 _ => ?_)
          refine le_cond rfl (fun _ => ?_) (fun _ => ?_)
          · skip
            refine le_call (good := good) (fun y => ⟨y, rfl⟩) packet_Client_inj (packet_Client_ok 12) (fun r8 _ => ?_)
            refine le_cond rfl (fun _ => ?_) (fun _ => ?_)
            · skip
              refine le_call (good := good) (fun y => ⟨y, rfl⟩) packet_Broker_inj (packet_Broker_ok 13) (fun r9 _ => ?_)
              exact le_ret (by first | rfl | (simp only [EN, brokerlaw06_awake_out]; done) | (simp only [EN, brokerlaw06_awake_out]; rfl))
            · skip
              exact le_ret (by first | rfl | (simp only [EN, brokerlaw06_awake_out]; done) | (simp only [EN, brokerlaw06_awake_out]; rfl))
          · skip
            exact le_ret (by first | rfl | (simp only [EN, brokerlaw06_awake_out]; done) | (simp only [EN, brokerlaw06_awake_out]; rfl))
        · skip
          exact le_ret (by first | rfl | (simp only [EN, brokerlaw06_awake_out]; done) | (simp only [EN, brokerlaw06_awake_out]; rfl))
      · skip
        exact le_ret (by first | rfl | (simp only [EN, brokerlaw06_awake_out]; done) | (simp only [EN, brokerlaw06_awake_out]; rfl))
    · skip
      exact le_ret (by first | rfl | (simp only [EN, brokerlaw06_awake_out]; done) | (simp only [EN, brokerlaw06_awake_out]; rfl))
  · skip
    exact le_ret (by first | rfl | (simp only [EN, brokerlaw06_awake_out]; done) | (simp only [EN, brokerlaw06_awake_out]; rfl))
def C33 (Γ : Fun)  : CFun := bindC Γ
def R33_23 (C : CFun) (Λ2 J : Lam) (a0 : (List D)) (a1 : (List D)) (a2 : (List D)) : Res := lab SE C Λ2 J 33 0 [1, 1, 1, 1, 1, 1, 1, 1, 1, 0, 0] (stoOf [(1, .ptr 1000000000 0), (2, .ptr 1000000001 0), (3, .ptr 1000000002 0)] [⟨31, (List.map AV.d a0)⟩, ⟨31, (List.map AV.d a1)⟩, ⟨31, (List.map AV.d a2)⟩] [] [] [])
def R33_21 (C : CFun) (Λ2 J : Lam) (a0 : (List D)) (a1 : (List D)) (a2 : (List D)) : Res := lab SE C Λ2 J 33 0 [1, 1, 1, 1, 1, 1, 1, 1, 0, 0] (stoOf [(1, .ptr 1000000000 0), (2, .ptr 1000000001 0), (3, .ptr 1000000002 0)] [⟨31, (List.map AV.d a0)⟩, ⟨31, (List.map AV.d a1)⟩, ⟨31, (List.map AV.d a2)⟩] [] [] [])
def R33_19 (C : CFun) (Λ2 J : Lam) (a0 : (List D)) (a1 : (List D)) (a2 : (List D)) : Res := lab SE C Λ2 J 33 0 [1, 1, 1, 1, 1, 1, 1, 0, 0] (stoOf [(1, .ptr 1000000000 0), (2, .ptr 1000000001 0), (3, .ptr 1000000002 0)] [⟨31, (List.map AV.d a0)⟩, ⟨31, (List.map AV.d a1)⟩, ⟨31, (List.map AV.d a2)⟩] [] [] [])
def R33_16 (C : CFun) (Λ2 J : Lam) (a0 : (List D)) (a1 : (List D)) (a2 : (List D)) : Res := lab SE C Λ2 J 33 0 [1, 1, 1, 1, 1, 1, 0, 0] (stoOf [(1, .ptr 1000000000 0), (2, .ptr 1000000001 0), (3, .ptr 1000000002 0)] [⟨31, (List.map AV.d a0)⟩, ⟨31, (List.map AV.d a1)⟩, ⟨31, (List.map AV.d a2)⟩] [] [] [])
def R33_14 (C : CFun) (Λ2 J : Lam) (a0 : (List D)) (a1 : (List D)) (a2 : (List D)) : Res := lab SE C Λ2 J 33 0 [1, 1, 1, 1, 1, 0, 0] (stoOf [(1, .ptr 1000000000 0), (2, .ptr 1000000001 0), (3, .ptr 1000000002 0)] [⟨31, (List.map AV.d a0)⟩, ⟨31, (List.map AV.d a1)⟩, ⟨31, (List.map AV.d a2)⟩] [] [] [])
def R33_12 (C : CFun) (Λ2 J : Lam) (a0 : (List D)) (a1 : (List D)) (a2 : (List D)) : Res := lab SE C Λ2 J 33 0 [1, 1, 1, 1, 0, 0] (stoOf [(1, .ptr 1000000000 0), (2, .ptr 1000000001 0), (3, .ptr 1000000002 0)] [⟨31, (List.map AV.d a0)⟩, ⟨31, (List.map AV.d a1)⟩, ⟨31, (List.map AV.d a2)⟩] [] [] [])
def R33_4 (C : CFun) (Λ2 J : Lam) (a0 : (List D)) (a1 : (List D)) (a2 : (List D)) : Res := lab SE C Λ2 J 33 0 [1, 1, 1, 0, 0] (stoOf [(1, .ptr 1000000000 0), (2, .ptr 1000000001 0), (3, .ptr 1000000002 0)] [⟨31, (List.map AV.d a0)⟩, ⟨31, (List.map AV.d a1)⟩, ⟨31, (List.map AV.d a2)⟩] [] [] [])
theorem T33 (Γ : Fun)  (Λ2 J : Lam) (p0 : api_Packet) : bodyC SE (C33 Γ) Λ2 J 33 [api_Packet.av p0] [] [] =
  cond (p0.Kind == 3) (
   R33_4 (C33 Γ) Λ2 J (api_Packet.enc p0) [D.int .i64 0, D.int .i64 0, D.bool false, D.str ([] : Str), D.str ([] : Str), D.int .i64 0, D.bool false, D.int .i64 0, D.int .i64 0, D.str ([] : Str), D.int .i64 0, D.sl api_Prop.ks (List.map api_Prop.enc []), D.str ([] : Str), D.str ([] : Str), D.bool false, D.int .i64 0, D.int .i64 0, D.int .i64 0, D.bool false, D.int .i64 0, D.str ([] : Str), D.str ([] : Str), D.int .i64 0, D.bool false, D.int .i64 0, D.int .i64 0, D.str ([] : Str), D.int .i64 0, D.sl api_Prop.ks (List.map api_Prop.enc []), D.bool false, D.int .i64 0, D.sl api_Sub.ks (List.map api_Sub.enc []), D.sl [.str] (List.map encS []), D.sl [.int .i64] (List.map (encI .i64) [])] [D.int .i64 p0.Kind, D.int .i64 p0.ID, D.bool false, D.str ([] : Str), D.str ([] : Str), D.int .i64 0, D.bool false, D.int .i64 0, D.int .i64 0, D.str ([] : Str), D.int .i64 0, D.sl api_Prop.ks (List.map api_Prop.enc []), D.str ([] : Str), D.str ([] : Str), D.bool false, D.int .i64 0, D.int .i64 0, D.int .i64 0, D.bool false, D.int .i64 0, D.str ([] : Str), D.str ([] : Str), D.int .i64 0, D.bool false, D.int .i64 0, D.int .i64 0, D.str ([] : Str), D.int .i64 0, D.sl api_Prop.ks (List.map api_Prop.enc []), D.bool false, D.int .i64 0, D.sl api_Sub.ks (List.map api_Sub.enc []), D.sl [.str] (List.map encS []), D.sl [.int .i64] (List.map (encI .i64) [])]) (
  cond (decide (p0.Kind ≥ 4)) (
   cond (decide (p0.Kind ≤ 11)) (
    R33_4 (C33 Γ) Λ2 J (api_Packet.enc p0) [D.int .i64 0, D.int .i64 0, D.bool false, D.str ([] : Str), D.str ([] : Str), D.int .i64 0, D.bool false, D.int .i64 0, D.int .i64 0, D.str ([] : Str), D.int .i64 0, D.sl api_Prop.ks (List.map api_Prop.enc []), D.str ([] : Str), D.str ([] : Str), D.bool false, D.int .i64 0, D.int .i64 0, D.int .i64 0, D.bool false, D.int .i64 0, D.str ([] : Str), D.str ([] : Str), D.int .i64 0, D.bool false, D.int .i64 0, D.int .i64 0, D.str ([] : Str), D.int .i64 0, D.sl api_Prop.ks (List.map api_Prop.enc []), D.bool false, D.int .i64 0, D.sl api_Sub.ks (List.map api_Sub.enc []), D.sl [.str] (List.map encS []), D.sl [.int .i64] (List.map (encI .i64) [])] [D.int .i64 p0.Kind, D.int .i64 p0.ID, D.bool false, D.str ([] : Str), D.str ([] : Str), D.int .i64 0, D.bool false, D.int .i64 0, D.int .i64 0, D.str ([] : Str), D.int .i64 0, D.sl api_Prop.ks (List.map api_Prop.enc []), D.str ([] : Str), D.str ([] : Str), D.bool false, D.int .i64 0, D.int .i64 0, D.int .i64 0, D.bool false, D.int .i64 0, D.str ([] : Str), D.str ([] : Str), D.int .i64 0, D.bool false, D.int .i64 0, D.int .i64 0, D.str ([] : Str), D.int .i64 0, D.sl api_Prop.ks (List.map api_Prop.enc []), D.bool false, D.int .i64 0, D.sl api_Sub.ks (List.map api_Sub.enc []), D.sl [.str] (List.map encS []), D.sl [.int .i64] (List.map (encI .i64) [])]) (
   R33_4 (C33 Γ) Λ2 J (api_Packet.enc p0) [D.int .i64 0, D.int .i64 0, D.bool false, D.str ([] : Str), D.str ([] : Str), D.int .i64 0, D.bool false, D.int .i64 0, D.int .i64 0, D.str ([] : Str), D.int .i64 0, D.sl api_Prop.ks (List.map api_Prop.enc []), D.str ([] : Str), D.str ([] : Str), D.bool false, D.int .i64 0, D.int .i64 0, D.int .i64 0, D.bool false, D.int .i64 0, D.str ([] : Str), D.str ([] : Str), D.int .i64 0, D.bool false, D.int .i64 0, D.int .i64 0, D.str ([] : Str), D.int .i64 0, D.sl api_Prop.ks (List.map api_Prop.enc []), D.bool false, D.int .i64 0, D.sl api_Sub.ks (List.map api_Sub.enc []), D.sl [.str] (List.map encS []), D.sl [.int .i64] (List.map (encI .i64) [])] [D.int .i64 p0.Kind, D.int .i64 0, D.bool false, D.str ([] : Str), D.str ([] : Str), D.int .i64 0, D.bool false, D.int .i64 0, D.int .i64 0, D.str ([] : Str), D.int .i64 0, D.sl api_Prop.ks (List.map api_Prop.enc []), D.str ([] : Str), D.str ([] : Str), D.bool false, D.int .i64 0, D.int .i64 0, D.int .i64 0, D.bool false, D.int .i64 0, D.str ([] : Str), D.str ([] : Str), D.int .i64 0, D.bool false, D.int .i64 0, D.int .i64 0, D.str ([] : Str), D.int .i64 0, D.sl api_Prop.ks (List.map api_Prop.enc []), D.bool false, D.int .i64 0, D.sl api_Sub.ks (List.map api_Sub.enc []), D.sl [.str] (List.map encS []), D.sl [.int .i64] (List.map (encI .i64) [])])) (
  R33_4 (C33 Γ) Λ2 J (api_Packet.enc p0) [D.int .i64 0, D.int .i64 0, D.bool false, D.str ([] : Str), D.str ([] : Str), D.int .i64 0, D.bool false, D.int .i64 0, D.int .i64 0, D.str ([] : Str), D.int .i64 0, D.sl api_Prop.ks (List.map api_Prop.enc []), D.str ([] : Str), D.str ([] : Str), D.bool false, D.int .i64 0, D.int .i64 0, D.int .i64 0, D.bool false, D.int .i64 0, D.str ([] : Str), D.str ([] : Str), D.int .i64 0, D.bool false, D.int .i64 0, D.int .i64 0, D.str ([] : Str), D.int .i64 0, D.sl api_Prop.ks (List.map api_Prop.enc []), D.bool false, D.int .i64 0, D.sl api_Sub.ks (List.map api_Sub.enc []), D.sl [.str] (List.map encS []), D.sl [.int .i64] (List.map (encI .i64) [])] [D.int .i64 p0.Kind, D.int .i64 0, D.bool false, D.str ([] : Str), D.str ([] : Str), D.int .i64 0, D.bool false, D.int .i64 0, D.int .i64 0, D.str ([] : Str), D.int .i64 0, D.sl api_Prop.ks (List.map api_Prop.enc []), D.str ([] : Str), D.str ([] : Str), D.bool false, D.int .i64 0, D.int .i64 0, D.int .i64 0, D.bool false, D.int .i64 0, D.str ([] : Str), D.str ([] : Str), D.int .i64 0, D.bool false, D.int .i64 0, D.int .i64 0, D.str ([] : Str), D.int .i64 0, D.sl api_Prop.ks (List.map api_Prop.enc []), D.bool false, D.int .i64 0, D.sl api_Sub.ks (List.map api_Sub.enc []), D.sl [.str] (List.map encS []), D.sl [.int .i64] (List.map (encI .i64) [])])) := by kernel_rfl
theorem T33_23 (Γ : Fun)  (Λ2 J : Lam) (b0 : api_Packet) (b1 : api_Packet) (b2 : api_Packet) : labU SE (C33 Γ) Λ2 J 33 0 [1, 1, 1, 1, 1, 1, 1, 1, 1, 0, 0] (stoOf [(1, .ptr 1000000000 0), (2, .ptr 1000000001 0), (3, .ptr 1000000002 0)] [⟨31, (List.map AV.d (api_Packet.enc b0))⟩, ⟨31, (List.map AV.d (api_Packet.enc b1))⟩, ⟨31, (List.map AV.d (api_Packet.enc b2))⟩] [] [] []) =
  cond (b0.Kind == 9) (
   (some (.ret [api_Packet.av (api_Packet.mk b2.Kind b2.ID b2.Dup b2.Message b2.Client b2.User b2.Clean b2.Keep b2.Expiry b2.Window b2.Will b2.Present b2.Code b2.Subs b2.Filters b0.Codes)] [] []))) (
  cond (b0.Kind == 11) (
   (some (.ret [api_Packet.av (api_Packet.mk b2.Kind b2.ID b2.Dup b2.Message b2.Client b2.User b2.Clean b2.Keep b2.Expiry b2.Window b2.Will b2.Present b2.Code b2.Subs b2.Filters b0.Codes)] [] []))) (
  (some (.ret [api_Packet.av b2] [] [])))) := by kernel_rfl
theorem T33_21 (Γ : Fun)  (Λ2 J : Lam) (b0 : api_Packet) (b1 : api_Packet) (b2 : api_Packet) : labU SE (C33 Γ) Λ2 J 33 0 [1, 1, 1, 1, 1, 1, 1, 1, 0, 0] (stoOf [(1, .ptr 1000000000 0), (2, .ptr 1000000001 0), (3, .ptr 1000000002 0)] [⟨31, (List.map AV.d (api_Packet.enc b0))⟩, ⟨31, (List.map AV.d (api_Packet.enc b1))⟩, ⟨31, (List.map AV.d (api_Packet.enc b2))⟩] [] [] []) =
  cond (b0.Kind == 10) (
   R33_23 (C33 Γ) Λ2 J (api_Packet.enc b0) (api_Packet.enc b1) (api_Packet.enc (api_Packet.mk b2.Kind b2.ID b2.Dup b2.Message b2.Client b2.User b2.Clean b2.Keep b2.Expiry b2.Window b2.Will b2.Present b2.Code b2.Subs b0.Filters b2.Codes))) (
  R33_23 (C33 Γ) Λ2 J (api_Packet.enc b0) (api_Packet.enc b1) (api_Packet.enc b2)) := by kernel_rfl
theorem T33_19 (Γ : Fun)  (Λ2 J : Lam) (b0 : api_Packet) (b1 : api_Packet) (b2 : api_Packet) : labU SE (C33 Γ) Λ2 J 33 0 [1, 1, 1, 1, 1, 1, 1, 0, 0] (stoOf [(1, .ptr 1000000000 0), (2, .ptr 1000000001 0), (3, .ptr 1000000002 0)] [⟨31, (List.map AV.d (api_Packet.enc b0))⟩, ⟨31, (List.map AV.d (api_Packet.enc b1))⟩, ⟨31, (List.map AV.d (api_Packet.enc b2))⟩] [] [] []) =
  cond (b0.Kind == 8) (
   R33_21 (C33 Γ) Λ2 J (api_Packet.enc b0) (api_Packet.enc b1) (api_Packet.enc (api_Packet.mk b2.Kind b2.ID b2.Dup b2.Message b2.Client b2.User b2.Clean b2.Keep b2.Expiry b2.Window b2.Will b2.Present b2.Code b0.Subs b2.Filters b2.Codes))) (
  R33_21 (C33 Γ) Λ2 J (api_Packet.enc b0) (api_Packet.enc b1) (api_Packet.enc b2)) := by kernel_rfl
theorem T33_16 (Γ : Fun)  (Λ2 J : Lam) (b0 : api_Packet) (b1 : api_Packet) (b2 : api_Packet) : labU SE (C33 Γ) Λ2 J 33 0 [1, 1, 1, 1, 1, 1, 0, 0] (stoOf [(1, .ptr 1000000000 0), (2, .ptr 1000000001 0), (3, .ptr 1000000002 0)] [⟨31, (List.map AV.d (api_Packet.enc b0))⟩, ⟨31, (List.map AV.d (api_Packet.enc b1))⟩, ⟨31, (List.map AV.d (api_Packet.enc b2))⟩] [] [] []) =
  cond (b0.Kind == 3) (
   R33_19 (C33 Γ) Λ2 J (api_Packet.enc b0) (api_Packet.enc b1) (api_Packet.enc (api_Packet.mk b2.Kind b2.ID b0.Dup b0.Message b2.Client b2.User b2.Clean b2.Keep b2.Expiry b2.Window b2.Will b2.Present b2.Code b2.Subs b2.Filters b2.Codes))) (
  R33_19 (C33 Γ) Λ2 J (api_Packet.enc b0) (api_Packet.enc b1) (api_Packet.enc b2)) := by kernel_rfl
theorem T33_14 (Γ : Fun)  (Λ2 J : Lam) (b0 : api_Packet) (b1 : api_Packet) (b2 : api_Packet) : labU SE (C33 Γ) Λ2 J 33 0 [1, 1, 1, 1, 1, 0, 0] (stoOf [(1, .ptr 1000000000 0), (2, .ptr 1000000001 0), (3, .ptr 1000000002 0)] [⟨31, (List.map AV.d (api_Packet.enc b0))⟩, ⟨31, (List.map AV.d (api_Packet.enc b1))⟩, ⟨31, (List.map AV.d (api_Packet.enc b2))⟩] [] [] []) =
  cond (b0.Kind == 2) (
   R33_16 (C33 Γ) Λ2 J (api_Packet.enc b0) (api_Packet.enc b1) (api_Packet.enc (api_Packet.mk b2.Kind b2.ID b2.Dup b2.Message b2.Client b2.User b2.Clean b2.Keep b2.Expiry b2.Window b2.Will b2.Present b0.Code b2.Subs b2.Filters b2.Codes))) (
  cond (b0.Kind == 14) (
   R33_16 (C33 Γ) Λ2 J (api_Packet.enc b0) (api_Packet.enc b1) (api_Packet.enc (api_Packet.mk b2.Kind b2.ID b2.Dup b2.Message b2.Client b2.User b2.Clean b2.Keep b2.Expiry b2.Window b2.Will b2.Present b0.Code b2.Subs b2.Filters b2.Codes))) (
  R33_16 (C33 Γ) Λ2 J (api_Packet.enc b0) (api_Packet.enc b1) (api_Packet.enc b2))) := by kernel_rfl
theorem T33_12 (Γ : Fun)  (Λ2 J : Lam) (b0 : api_Packet) (b1 : api_Packet) (b2 : api_Packet) : labU SE (C33 Γ) Λ2 J 33 0 [1, 1, 1, 1, 0, 0] (stoOf [(1, .ptr 1000000000 0), (2, .ptr 1000000001 0), (3, .ptr 1000000002 0)] [⟨31, (List.map AV.d (api_Packet.enc b0))⟩, ⟨31, (List.map AV.d (api_Packet.enc b1))⟩, ⟨31, (List.map AV.d (api_Packet.enc b2))⟩] [] [] []) =
  cond (b0.Kind == 2) (
   R33_14 (C33 Γ) Λ2 J (api_Packet.enc b0) (api_Packet.enc b1) (api_Packet.enc (api_Packet.mk b2.Kind b2.ID b2.Dup b2.Message b2.Client b2.User b2.Clean b2.Keep b2.Expiry b2.Window b2.Will b0.Present b2.Code b2.Subs b2.Filters b2.Codes))) (
  R33_14 (C33 Γ) Λ2 J (api_Packet.enc b0) (api_Packet.enc b1) (api_Packet.enc b2)) := by kernel_rfl
theorem T33_4 (Γ : Fun)  (Λ2 J : Lam) (b0 : api_Packet) (b1 : api_Packet) (b2 : api_Packet) : labU SE (C33 Γ) Λ2 J 33 0 [1, 1, 1, 0, 0] (stoOf [(1, .ptr 1000000000 0), (2, .ptr 1000000001 0), (3, .ptr 1000000002 0)] [⟨31, (List.map AV.d (api_Packet.enc b0))⟩, ⟨31, (List.map AV.d (api_Packet.enc b1))⟩, ⟨31, (List.map AV.d (api_Packet.enc b2))⟩] [] [] []) =
  cond (b0.Kind == 1) (
   R33_12 (C33 Γ) Λ2 J (api_Packet.enc b0) (api_Packet.enc b1) (api_Packet.enc (api_Packet.mk b2.Kind b2.ID b2.Dup b2.Message b0.Client b0.User b0.Clean b0.Keep b0.Expiry b0.Window b0.Will b2.Present b2.Code b2.Subs b2.Filters b2.Codes))) (
  R33_12 (C33 Γ) Λ2 J (api_Packet.enc b0) (api_Packet.enc b1) (api_Packet.enc b2)) := by kernel_rfl
abbrev X33 : CFun := C33 (callG SE good)
theorem Cr33 : C33 (callG SE good) = bindC (callG SE good) := by unfold C33; rfl
noncomputable abbrev Q33_23 (a0 : (List D)) (a1 : (List D)) (a2 : (List D)) : Res := R33_23 X33 (lam2 SE (callG SE good) (SE.hl 33) (SE.hr 33)) (J0 SE X33) a0 a1 a2
noncomputable abbrev Q33_21 (a0 : (List D)) (a1 : (List D)) (a2 : (List D)) : Res := R33_21 X33 (lam2 SE (callG SE good) (SE.hl 33) (SE.hr 33)) (J0 SE X33) a0 a1 a2
noncomputable abbrev Q33_19 (a0 : (List D)) (a1 : (List D)) (a2 : (List D)) : Res := R33_19 X33 (lam2 SE (callG SE good) (SE.hl 33) (SE.hr 33)) (J0 SE X33) a0 a1 a2
noncomputable abbrev Q33_16 (a0 : (List D)) (a1 : (List D)) (a2 : (List D)) : Res := R33_16 X33 (lam2 SE (callG SE good) (SE.hl 33) (SE.hr 33)) (J0 SE X33) a0 a1 a2
noncomputable abbrev Q33_14 (a0 : (List D)) (a1 : (List D)) (a2 : (List D)) : Res := R33_14 X33 (lam2 SE (callG SE good) (SE.hl 33) (SE.hr 33)) (J0 SE X33) a0 a1 a2
noncomputable abbrev Q33_12 (a0 : (List D)) (a1 : (List D)) (a2 : (List D)) : Res := R33_12 X33 (lam2 SE (callG SE good) (SE.hl 33) (SE.hr 33)) (J0 SE X33) a0 a1 a2
noncomputable abbrev Q33_4 (a0 : (List D)) (a1 : (List D)) (a2 : (List D)) : Res := R33_4 X33 (lam2 SE (callG SE good) (SE.hl 33) (SE.hr 33)) (J0 SE X33) a0 a1 a2
theorem brokerref06_Used_j23_ok (b0 : api_Packet) (b1 : api_Packet) (b2 : api_Packet) : Le (Option.map brokerref06_Used_out (brokerref06_Used_j23 b0 b1 b2)) (Q33_23 (api_Packet.enc b0) (api_Packet.enc b1) (api_Packet.enc b2)) := by
  refine Le.trans ?_ (le_of_eq ((lab_realC Cr33).trans (T33_23 _ _ _  b0 b1 b2)).symm)
  unfold brokerref06_Used_j23
  refine le_cond rfl (fun _ => ?_) (fun _ => ?_)
  · skip
    exact le_ret (by first | rfl | (simp only [EN, brokerref06_Used_out]; done) | (simp only [EN, brokerref06_Used_out]; rfl))
  · skip
    refine le_cond rfl (fun _ => ?_) (fun _ => ?_)
    · skip
      exact le_ret (by first | rfl | (simp only [EN, brokerref06_Used_out]; done) | (simp only [EN, brokerref06_Used_out]; rfl))
    · skip
      exact le_ret (by first | rfl | (simp only [EN, brokerref06_Used_out]; done) | (simp only [EN, brokerref06_Used_out]; rfl))
theorem brokerref06_Used_j21_ok (b0 : api_Packet) (b1 : api_Packet) (b2 : api_Packet) : Le (Option.map brokerref06_Used_out (brokerref06_Used_j21 b0 b1 b2)) (Q33_21 (api_Packet.enc b0) (api_Packet.enc b1) (api_Packet.enc b2)) := by
  refine Le.trans ?_ (le_of_eq ((lab_realC Cr33).trans (T33_21 _ _ _  b0 b1 b2)).symm)
  unfold brokerref06_Used_j21
  refine le_cond rfl (fun _ => ?_) (fun _ => ?_)
  · skip
    exact brokerref06_Used_j23_ok b0 b1 (api_Packet.mk b2.Kind b2.ID b2.Dup b2.Message b2.Client b2.User b2.Clean b2.Keep b2.Expiry b2.Window b2.Will b2.Present b2.Code b2.Subs b0.Filters b2.Codes)
  · skip
    exact brokerref06_Used_j23_ok b0 b1 b2
theorem brokerref06_Used_j19_ok (b0 : api_Packet) (b1 : api_Packet) (b2 : api_Packet) : Le (Option.map brokerref06_Used_out (brokerref06_Used_j19 b0 b1 b2)) (Q33_19 (api_Packet.enc b0) (api_Packet.enc b1) (api_Packet.enc b2)) := by
  refine Le.trans ?_ (le_of_eq ((lab_realC Cr33).trans (T33_19 _ _ _  b0 b1 b2)).symm)
  unfold brokerref06_Used_j19
  refine le_cond rfl (fun _ => ?_) (fun _ => ?_)
  · skip
    exact brokerref06_Used_j21_ok b0 b1 (api_Packet.mk b2.Kind b2.ID b2.Dup b2.Message b2.Client b2.User b2.Clean b2.Keep b2.Expiry b2.Window b2.Will b2.Present b2.Code b0.Subs b2.Filters b2.Codes)
  · skip
    exact brokerref06_Used_j21_ok b0 b1 b2
theorem brokerref06_Used_j16_ok (b0 : api_Packet) (b1 : api_Packet) (b2 : api_Packet) : Le (Option.map brokerref06_Used_out (brokerref06_Used_j16 b0 b1 b2)) (Q33_16 (api_Packet.enc b0) (api_Packet.enc b1) (api_Packet.enc b2)) := by
  refine Le.trans ?_ (le_of_eq ((lab_realC Cr33).trans (T33_16 _ _ _  b0 b1 b2)).symm)
  unfold brokerref06_Used_j16
  refine le_cond rfl (fun _ => ?_) (fun _ => ?_)
  · skip
    exact brokerref06_Used_j19_ok b0 b1 (api_Packet.mk b2.Kind b2.ID b0.Dup b0.Message b2.Client b2.User b2.Clean b2.Keep b2.Expiry b2.Window b2.Will b2.Present b2.Code b2.Subs b2.Filters b2.Codes)
  · skip
    exact brokerref06_Used_j19_ok b0 b1 b2
theorem brokerref06_Used_j14_ok (b0 : api_Packet) (b1 : api_Packet) (b2 : api_Packet) : Le (Option.map brokerref06_Used_out (brokerref06_Used_j14 b0 b1 b2)) (Q33_14 (api_Packet.enc b0) (api_Packet.enc b1) (api_Packet.enc b2)) := by
  refine Le.trans ?_ (le_of_eq ((lab_realC Cr33).trans (T33_14 _ _ _  b0 b1 b2)).symm)
  unfold brokerref06_Used_j14
  refine le_cond rfl (fun _ => ?_) (fun _ => ?_)
  · skip
    exact brokerref06_Used_j16_ok b0 b1 (api_Packet.mk b2.Kind b2.ID b2.Dup b2.Message b2.Client b2.User b2.Clean b2.Keep b2.Expiry b2.Window b2.Will b2.Present b0.Code b2.Subs b2.Filters b2.Codes)
  · skip
    refine le_cond rfl (fun _ => ?_) (fun _ => ?_)
    · skip
      exact brokerref06_Used_j16_ok b0 b1 (api_Packet.mk b2.Kind b2.ID b2.Dup b2.Message b2.Client b2.User b2.Clean b2.Keep b2.Expiry b2.Window b2.Will b2.Present b0.Code b2.Subs b2.Filters b2.Codes)
    · skip
      exact brokerref06_Used_j16_ok b0 b1 b2
theorem brokerref06_Used_j12_ok (b0 : api_Packet) (b1 : api_Packet) (b2 : api_Packet) : Le (Option.map brokerref06_Used_out (brokerref06_Used_j12 b0 b1 b2)) (Q33_12 (api_Packet.enc b0) (api_Packet.enc b1) (api_Packet.enc b2)) := by
  refine Le.trans ?_ (le_of_eq ((lab_realC Cr33).trans (T33_12 _ _ _  b0 b1 b2)).symm)
  unfold brokerref06_Used_j12
  refine le_cond rfl (fun _ => ?_) (fun _ => ?_)
  · skip
    exact brokerref06_Used_j14_ok b0 b1 (api_Packet.mk b2.Kind b2.ID b2.Dup b2.Message b2.Client b2.User b2.Clean b2.Keep b2.Expiry b2.Window b2.Will b0.Present b2.Code b2.Subs b2.Filters b2.Codes)
  · skip
    exact brokerref06_Used_j14_ok b0 b1 b2
theorem brokerref06_Used_j4_ok (b0 : api_Packet) (b1 : api_Packet) (b2 : api_Packet) : Le (Option.map brokerref06_Used_out (brokerref06_Used_j4 b0 b1 b2)) (Q33_4 (api_Packet.enc b0) (api_Packet.enc b1) (api_Packet.enc b2)) := by
  refine Le.trans ?_ (le_of_eq ((lab_realC Cr33).trans (T33_4 _ _ _  b0 b1 b2)).symm)
  unfold brokerref06_Used_j4
  refine le_cond rfl (fun _ => ?_) (fun _ => ?_)
  · skip
    exact brokerref06_Used_j12_ok b0 b1 (api_Packet.mk b2.Kind b2.ID b2.Dup b2.Message b0.Client b0.User b0.Clean b0.Keep b0.Expiry b0.Window b0.Will b2.Present b2.Code b2.Subs b2.Filters b2.Codes)
  · skip
    exact brokerref06_Used_j12_ok b0 b1 b2
theorem brokerref06_Used_ok (p0 : api_Packet) : Le (Option.map brokerref06_Used_out (brokerref06_Used p0)) (callW SE 33 [api_Packet.av p0] [] []) := by
  refine le_bodyC Cr33 ?_
  refine Le.trans ?_ (le_of_eq (T33 _ _ _  p0).symm)
  unfold brokerref06_Used
  refine le_cond rfl (fun _ => ?_) (fun _ => ?_)
  · skip
    first | (simp only [EN]; exact brokerref06_Used_j4_ok p0 ((api_Packet.mk 0 0 false (api_Message.mk ([] : Str) ([] : Str) 0 false 0 0 ([] : Str) 0 ([] : List api_Prop)) ([] : Str) ([] : Str) false 0 0 0 (api_Will.mk false 0 (api_Message.mk ([] : Str) ([] : Str) 0 false 0 0 ([] : Str) 0 ([] : List api_Prop))) false 0 ([] : List api_Sub) ([] : List Str) ([] : List Int))) ((api_Packet.mk p0.Kind p0.ID false (api_Message.mk ([] : Str) ([] : Str) 0 false 0 0 ([] : Str) 0 ([] : List api_Prop)) ([] : Str) ([] : Str) false 0 0 0 (api_Will.mk false 0 (api_Message.mk ([] : Str) ([] : Str) 0 false 0 0 ([] : Str) 0 ([] : List api_Prop))) false 0 ([] : List api_Sub) ([] : List Str) ([] : List Int)))) | exact brokerref06_Used_j4_ok p0 ((api_Packet.mk 0 0 false (api_Message.mk ([] : Str) ([] : Str) 0 false 0 0 ([] : Str) 0 ([] : List api_Prop)) ([] : Str) ([] : Str) false 0 0 0 (api_Will.mk false 0 (api_Message.mk ([] : Str) ([] : Str) 0 false 0 0 ([] : Str) 0 ([] : List api_Prop))) false 0 ([] : List api_Sub) ([] : List Str) ([] : List Int))) ((api_Packet.mk p0.Kind p0.ID false (api_Message.mk ([] : Str) ([] : Str) 0 false 0 0 ([] : Str) 0 ([] : List api_Prop)) ([] : Str) ([] : Str) false 0 0 0 (api_Will.mk false 0 (api_Message.mk ([] : Str) ([] : Str) 0 false 0 0 ([] : Str) 0 ([] : List api_Prop))) false 0 ([] : List api_Sub) ([] : List Str) ([] : List Int)))
  · skip
    refine le_cond rfl (fun _ => ?_) (fun _ => ?_)
    · skip
      refine le_cond rfl (fun _ => ?_) (fun _ => ?_)
      · skip
        first | (simp only [EN]; exact brokerref06_Used_j4_ok p0 ((api_Packet.mk 0 0 false (api_Message.mk ([] : Str) ([] : Str) 0 false 0 0 ([] : Str) 0 ([] : List api_Prop)) ([] : Str) ([] : Str) false 0 0 0 (api_Will.mk false 0 (api_Message.mk ([] : Str) ([] : Str) 0 false 0 0 ([] : Str) 0 ([] : List api_Prop))) false 0 ([] : List api_Sub) ([] : List Str) ([] : List Int))) ((api_Packet.mk p0.Kind p0.ID false (api_Message.mk ([] : Str) ([] : Str) 0 false 0 0 ([] : Str) 0 ([] : List api_Prop)) ([] : Str) ([] : Str) false 0 0 0 (api_Will.mk false 0 (api_Message.mk ([] : Str) ([] : Str) 0 false 0 0 ([] : Str) 0 ([] : List api_Prop))) false 0 ([] : List api_Sub) ([] : List Str) ([] : List Int)))) | exact brokerref06_Used_j4_ok p0 ((api_Packet.mk 0 0 false (api_Message.mk ([] : Str) ([] : Str) 0 false 0 0 ([] : Str) 0 ([] : List api_Prop)) ([] : Str) ([] : Str) false 0 0 0 (api_Will.mk false 0 (api_Message.mk ([] : Str) ([] : Str) 0 false 0 0 ([] : Str) 0 ([] : List api_Prop))) false 0 ([] : List api_Sub) ([] : List Str) ([] : List Int))) ((api_Packet.mk p0.Kind p0.ID false (api_Message.mk ([] : Str) ([] : Str) 0 false 0 0 ([] : Str) 0 ([] : List api_Prop)) ([] : Str) ([] : Str) false 0 0 0 (api_Will.mk false 0 (api_Message.mk ([] : Str) ([] : Str) 0 false 0 0 ([] : Str) 0 ([] : List api_Prop))) false 0 ([] : List api_Sub) ([] : List Str) ([] : List Int)))
      · skip
        first | (simp only [EN]; exact brokerref06_Used_j4_ok p0 ((api_Packet.mk 0 0 false (api_Message.mk ([] : Str) ([] : Str) 0 false 0 0 ([] : Str) 0 ([] : List api_Prop)) ([] : Str) ([] : Str) false 0 0 0 (api_Will.mk false 0 (api_Message.mk ([] : Str) ([] : Str) 0 false 0 0 ([] : Str) 0 ([] : List api_Prop))) false 0 ([] : List api_Sub) ([] : List Str) ([] : List Int))) ((api_Packet.mk p0.Kind 0 false (api_Message.mk ([] : Str) ([] : Str) 0 false 0 0 ([] : Str) 0 ([] : List api_Prop)) ([] : Str) ([] : Str) false 0 0 0 (api_Will.mk false 0 (api_Message.mk ([] : Str) ([] : Str) 0 false 0 0 ([] : Str) 0 ([] : List api_Prop))) false 0 ([] : List api_Sub) ([] : List Str) ([] : List Int)))) | exact brokerref06_Used_j4_ok p0 ((api_Packet.mk 0 0 false (api_Message.mk ([] : Str) ([] : Str) 0 false 0 0 ([] : Str) 0 ([] : List api_Prop)) ([] : Str) ([] : Str) false 0 0 0 (api_Will.mk false 0 (api_Message.mk ([] : Str) ([] : Str) 0 false 0 0 ([] : Str) 0 ([] : List api_Prop))) false 0 ([] : List api_Sub) ([] : List Str) ([] : List Int))) ((api_Packet.mk p0.Kind 0 false (api_Message.mk ([] : Str) ([] : Str) 0 false 0 0 ([] : Str) 0 ([] : List api_Prop)) ([] : Str) ([] : Str) false 0 0 0 (api_Will.mk false 0 (api_Message.mk ([] : Str) ([] : Str) 0 false 0 0 ([] : Str) 0 ([] : List api_Prop))) false 0 ([] : List api_Sub) ([] : List Str) ([] : List Int)))
    · skip
      first | (simp only [EN]; exact brokerref06_Used_j4_ok p0 ((api_Packet.mk 0 0 false (api_Message.mk ([] : Str) ([] : Str) 0 false 0 0 ([] : Str) 0 ([] : List api_Prop)) ([] : Str) ([] : Str) false 0 0 0 (api_Will.mk false 0 (api_Message.mk ([] : Str) ([] : Str) 0 false 0 0 ([] : Str) 0 ([] : List api_Prop))) false 0 ([] : List api_Sub) ([] : List Str) ([] : List Int))) ((api_Packet.mk p0.Kind 0 false (api_Message.mk ([] : Str) ([] : Str) 0 false 0 0 ([] : Str) 0 ([] : List api_Prop)) ([] : Str) ([] : Str) false 0 0 0 (api_Will.mk false 0 (api_Message.mk ([] : Str) ([] : Str) 0 false 0 0 ([] : Str) 0 ([] : List api_Prop))) false 0 ([] : List api_Sub) ([] : List Str) ([] : List Int)))) | exact brokerref06_Used_j4_ok p0 ((api_Packet.mk 0 0 false (api_Message.mk ([] : Str) ([] : Str) 0 false 0 0 ([] : Str) 0 ([] : List api_Prop)) ([] : Str) ([] : Str) false 0 0 0 (api_Will.mk false 0 (api_Message.mk ([] : Str) ([] : Str) 0 false 0 0 ([] : Str) 0 ([] : List api_Prop))) false 0 ([] : List api_Sub) ([] : List Str) ([] : List Int))) ((api_Packet.mk p0.Kind 0 false (api_Message.mk ([] : Str) ([] : Str) 0 false 0 0 ([] : Str) 0 ([] : List api_Prop)) ([] : Str) ([] : Str) false 0 0 0 (api_Will.mk false 0 (api_Message.mk ([] : Str) ([] : Str) 0 false 0 0 ([] : Str) 0 ([] : List api_Prop))) false 0 ([] : List api_Sub) ([] : List Str) ([] : List Int)))
def C61 (Γ : Fun)  : CFun := bindC Γ
def R61_4 (C : CFun) (Λ2 J : Lam) (a0 : (List (List D))) (a1 : (List (List D))) (a2 : Int) : Res := lab SE C Λ2 J 61 0 [1, 1, 0, 1, 0] (stoOf [(0, .d (.sl api_Prop.ks a0)), (1, .d (.sl api_Prop.ks a1)), (5, .d (.int .i64 a2))] [] [] [] [])
theorem T61 (Γ : Fun)  (Λ2 J : Lam) (p0 : (List api_Prop)) (p1 : (List api_Prop)) : bodyC SE (C61 Γ) Λ2 J 61 [.d (.sl api_Prop.ks (List.map api_Prop.enc p0)), .d (.sl api_Prop.ks (List.map api_Prop.enc p1))] [] [] =
  cond ((List.length (List.map api_Prop.enc p0) : Int) != (List.length (List.map api_Prop.enc p1) : Int)) (
   (some (.ret [.d (.bool false)] [] []))) (
  R61_4 (C61 Γ) Λ2 J (List.map api_Prop.enc p0) (List.map api_Prop.enc p1) 0) := by kernel_rfl
theorem T61_4 (Γ : Fun)  (Λ2 J : Lam) (x0 : (List api_Prop)) (x1 : (List api_Prop)) (x5 : Int) : labU SE (C61 Γ) Λ2 J 61 0 [1, 1, 0, 1, 0] (stoOf [(0, .d (.sl api_Prop.ks (List.map api_Prop.enc x0))), (1, .d (.sl api_Prop.ks (List.map api_Prop.enc x1))), (5, .d (.int .i64 x5))] [] [] [] []) =
  cond (decide (x5 < (List.length (List.map api_Prop.enc x0) : Int))) (
   cond (decide (0 ≤ x5) && decide (x5 < (List.length (List.map api_Prop.enc x0) : Int))) (
    cond (decide (0 ≤ x5) && decide (x5 < (List.length (List.map api_Prop.enc x1) : Int))) (
     cond (!(((dStr (cellAt (elemAt (List.map api_Prop.enc x0) (Int.toNat x5)) 0)) == (dStr (cellAt (elemAt (List.map api_Prop.enc x1) (Int.toNat x5)) 0))) && (((dStr (cellAt (elemAt (List.map api_Prop.enc x0) (Int.toNat x5)) 1)) == (dStr (cellAt (elemAt (List.map api_Prop.enc x1) (Int.toNat x5)) 1))) && true))) (
      (some (.ret [.d (.bool false)] [] []))) (
     R61_4 (C61 Γ) Λ2 J (List.map api_Prop.enc x0) (List.map api_Prop.enc x1) (IntKind.wrap .i64 (x5 + 1)))) none) none) (
  (some (.ret [.d (.bool true)] [] []))) := by kernel_rfl
abbrev X61 : CFun := C61 (callG SE good)
theorem Cr61 : C61 (callG SE good) = bindC (callG SE good) := by unfold C61; rfl
noncomputable abbrev Q61_4 (a0 : (List (List D))) (a1 : (List (List D))) (a2 : Int) : Res := R61_4 X61 (lam2 SE (callG SE good) (SE.hl 61) (SE.hr 61)) (J0 SE X61) a0 a1 a2
theorem brokerref05_SameProps_l4_ok : ∀ (fu : Nat) (x0 : (List api_Prop)) (x1 : (List api_Prop)) (x5 : Int), Le (Option.map brokerref05_SameProps_out (brokerref05_SameProps_l4 fu x0 x1 x5)) (Q61_4 (List.map api_Prop.enc x0) (List.map api_Prop.enc x1) x5) := by
  intro fu
  induction fu with
  | zero => intros; exact le_none
  | succ fu ih =>
    intro x0 x1 x5
    refine Le.trans ?_ (le_of_eq ((lab_realC Cr61).trans (T61_4 _ _ _  x0 x1 x5)).symm)
    unfold brokerref05_SameProps_l4
    refine le_cond (by simp only [EN]) (fun _ => ?_) (fun _ => ?_)
    · skip
      refine le_cond (by simp only [EN]) (fun _ => ?_) (fun _ => le_none)
      refine le_cond (by simp only [EN]) (fun _ => ?_) (fun _ => le_none)
      refine le_cond (by simp only [EN]) (fun _ => ?_) (fun _ => ?_)
      · skip
        exact le_ret (by first | rfl | (simp only [EN, brokerref05_SameProps_out]; done) | (simp only [EN, brokerref05_SameProps_out]; rfl))
      · skip
        exact ih x0 x1 (IntKind.wrap .i64 (x5 + 1))
    · skip
      exact le_ret (by first | rfl | (simp only [EN, brokerref05_SameProps_out]; done) | (simp only [EN, brokerref05_SameProps_out]; rfl))
theorem brokerref05_SameProps_ok (p0 : (List api_Prop)) (p1 : (List api_Prop)) : Le (Option.map brokerref05_SameProps_out (brokerref05_SameProps p0 p1)) (callW SE 61 [.d (.sl api_Prop.ks (List.map api_Prop.enc p0)), .d (.sl api_Prop.ks (List.map api_Prop.enc p1))] [] []) := by
  refine le_bodyC Cr61 ?_
  refine Le.trans ?_ (le_of_eq (T61 _ _ _  p0 p1).symm)
  unfold brokerref05_SameProps
  refine le_cond (by simp only [EN]) (fun _ => ?_) (fun _ => ?_)
  · skip
    exact le_ret (by first | rfl | (simp only [EN, brokerref05_SameProps_out]; done) | (simp only [EN, brokerref05_SameProps_out]; rfl))
  · skip
    exact brokerref05_SameProps_l4_ok fuel p0 p1 0
def C47 (Γ : Fun) (γ61 : Gm (Bool)) : CFun := updC (bindC Γ) 61 brokerref05_SameProps_out γ61
theorem T47 (Γ : Fun) (γ61 : Gm (Bool)) (Λ2 J : Lam) (p0 : api_Message) (p1 : api_Message) : bodyC SE (C47 Γ γ61) Λ2 J 47 [api_Message.av p0, api_Message.av p1] [] [] =
  cond (p0.Topic == p1.Topic) (
   cond (p0.Payload == p1.Payload) (
    cond (p0.Level == p1.Level) (
     cond (p0.Retain == p1.Retain) (
      cond (p0.Priority == p1.Priority) (
       cond (p0.Expires == p1.Expires) (
        cond (p0.From == p1.From) (
         cond (p0.Seq == p1.Seq) (
          γ61 [.d (.sl api_Prop.ks (List.map api_Prop.enc p0.Props)), .d (.sl api_Prop.ks (List.map api_Prop.enc p1.Props))] [] [] fun r0 =>
          (some (.ret [.d (.bool r0)] [] []))) (
         (some (.ret [.d (.bool false)] [] [])))) (
        (some (.ret [.d (.bool false)] [] [])))) (
       (some (.ret [.d (.bool false)] [] [])))) (
      (some (.ret [.d (.bool false)] [] [])))) (
     (some (.ret [.d (.bool false)] [] [])))) (
    (some (.ret [.d (.bool false)] [] [])))) (
   (some (.ret [.d (.bool false)] [] [])))) (
  (some (.ret [.d (.bool false)] [] []))) := by kernel_rfl
abbrev X47 : CFun := C47 (callG SE good) (callT SE good 61 brokerref05_SameProps_out)
theorem Cr47 : C47 (callG SE good) (callT SE good 61 brokerref05_SameProps_out) = bindC (callG SE good) := by unfold C47; rw [updC_real (fun _ h => h)]
theorem brokerref05_Same_ok (p0 : api_Message) (p1 : api_Message) : Le (Option.map brokerref05_Same_out (brokerref05_Same p0 p1)) (callW SE 47 [api_Message.av p0, api_Message.av p1] [] []) := by
  refine le_bodyC Cr47 ?_
  refine Le.trans ?_ (le_of_eq (T47 _ _ _ _  p0 p1).symm)
  unfold brokerref05_Same
  refine le_cond rfl (fun _ => ?_) (fun _ => ?_)
  · skip
    refine le_cond rfl (fun _ => ?_) (fun _ => ?_)
    · skip
      refine le_cond rfl (fun _ => ?_) (fun _ => ?_)
      · skip
        refine le_cond rfl (fun _ => ?_) (fun _ => ?_)
        · skip
          refine le_cond rfl (fun _ => ?_) (fun _ => ?_)
          · skip
            refine le_cond rfl (fun _ => ?_) (fun _ => ?_)
            · skip
              refine le_cond rfl (fun _ => ?_) (fun _ => ?_)
              · skip
                refine le_cond rfl (fun _ => ?_) (fun _ => ?_)
                · skip
                  refine le_call (good := good) (fun y => ⟨y, rfl⟩) brokerref05_SameProps_inj (brokerref05_SameProps_ok p0.Props p1.Props) (fun r0 _ => ?_)
                  exact le_ret (by first | rfl | (simp only [EN, brokerref05_Same_out]; done) | (simp only [EN, brokerref05_Same_out]; rfl))
                · skip
                  exact le_ret (by first | rfl | (simp only [EN, brokerref05_Same_out]; done) | (simp only [EN, brokerref05_Same_out]; rfl))
              · skip
                exact le_ret (by first | rfl | (simp only [EN, brokerref05_Same_out]; done) | (simp only [EN, brokerref05_Same_out]; rfl))
            · skip
              exact le_ret (by first | rfl | (simp only [EN, brokerref05_Same_out]; done) | (simp only [EN, brokerref05_Same_out]; rfl))
          · skip
            exact le_ret (by first | rfl | (simp only [EN, brokerref05_Same_out]; done) | (simp only [EN, brokerref05_Same_out]; rfl))
        · skip
          exact le_ret (by first | rfl | (simp only [EN, brokerref05_Same_out]; done) | (simp only [EN, brokerref05_Same_out]; rfl))
      · skip
        exact le_ret (by first | rfl | (simp only [EN, brokerref05_Same_out]; done) | (simp only [EN, brokerref05_Same_out]; rfl))
    · skip
      exact le_ret (by first | rfl | (simp only [EN, brokerref05_Same_out]; done) | (simp only [EN, brokerref05_Same_out]; rfl))
  · skip
    exact le_ret (by first | rfl | (simp only [EN, brokerref05_Same_out]; done) | (simp only [EN, brokerref05_Same_out]; rfl))
def C48 (Γ : Fun) (γ47 : Gm (Bool)) : CFun := updC (bindC Γ) 47 brokerref05_Same_out γ47
theorem T48 (Γ : Fun) (γ47 : Gm (Bool)) (Λ2 J : Lam) (p0 : api_Will) (p1 : api_Will) : bodyC SE (C48 Γ γ47) Λ2 J 48 [api_Will.av p0, api_Will.av p1] [] [] =
  cond (p0.Set == p1.Set) (
   cond (p0.Delay == p1.Delay) (
    γ47 [api_Message.av p0.Message, api_Message.av p1.Message] [] [] fun r0 =>
    (some (.ret [.d (.bool r0)] [] []))) (
   (some (.ret [.d (.bool false)] [] [])))) (
  (some (.ret [.d (.bool false)] [] []))) := by kernel_rfl
abbrev X48 : CFun := C48 (callG SE good) (callT SE good 47 brokerref05_Same_out)
theorem Cr48 : C48 (callG SE good) (callT SE good 47 brokerref05_Same_out) = bindC (callG SE good) := by unfold C48; rw [updC_real (fun _ h => h)]
theorem brokerref06_SameWill_ok (p0 : api_Will) (p1 : api_Will) : Le (Option.map brokerref06_SameWill_out (brokerref06_SameWill p0 p1)) (callW SE 48 [api_Will.av p0, api_Will.av p1] [] []) := by
  refine le_bodyC Cr48 ?_
  refine Le.trans ?_ (le_of_eq (T48 _ _ _ _  p0 p1).symm)
  unfold brokerref06_SameWill
  refine le_cond rfl (fun _ => ?_) (fun _ => ?_)
  · skip
    refine le_cond rfl (fun _ => ?_) (fun _ => ?_)
    · skip
      refine le_call (good := good) (fun y => ⟨y, rfl⟩) brokerref05_Same_inj (brokerref05_Same_ok p0.Message p1.Message) (fun r0 _ => ?_)
      exact le_ret (by first | rfl | (simp only [EN, brokerref06_SameWill_out]; done) | (simp only [EN, brokerref06_SameWill_out]; rfl))
    · skip
      exact le_ret (by first | rfl | (simp only [EN, brokerref06_SameWill_out]; done) | (simp only [EN, brokerref06_SameWill_out]; rfl))
  · skip
    exact le_ret (by first | rfl | (simp only [EN, brokerref06_SameWill_out]; done) | (simp only [EN, brokerref06_SameWill_out]; rfl))
def C49 (Γ : Fun)  : CFun := bindC Γ
def R49_4 (C : CFun) (Λ2 J : Lam) (a0 : (List (List D))) (a1 : (List (List D))) (a2 : Int) : Res := lab SE C Λ2 J 49 0 [1, 1, 0, 1, 0] (stoOf [(0, .d (.sl api_Sub.ks a0)), (1, .d (.sl api_Sub.ks a1)), (5, .d (.int .i64 a2))] [] [] [] [])
theorem T49 (Γ : Fun)  (Λ2 J : Lam) (p0 : (List api_Sub)) (p1 : (List api_Sub)) : bodyC SE (C49 Γ) Λ2 J 49 [.d (.sl api_Sub.ks (List.map api_Sub.enc p0)), .d (.sl api_Sub.ks (List.map api_Sub.enc p1))] [] [] =
  cond ((List.length (List.map api_Sub.enc p0) : Int) != (List.length (List.map api_Sub.enc p1) : Int)) (
   (some (.ret [.d (.bool false)] [] []))) (
  R49_4 (C49 Γ) Λ2 J (List.map api_Sub.enc p0) (List.map api_Sub.enc p1) 0) := by kernel_rfl
theorem T49_4 (Γ : Fun)  (Λ2 J : Lam) (x0 : (List api_Sub)) (x1 : (List api_Sub)) (x5 : Int) : labU SE (C49 Γ) Λ2 J 49 0 [1, 1, 0, 1, 0] (stoOf [(0, .d (.sl api_Sub.ks (List.map api_Sub.enc x0))), (1, .d (.sl api_Sub.ks (List.map api_Sub.enc x1))), (5, .d (.int .i64 x5))] [] [] [] []) =
  cond (decide (x5 < (List.length (List.map api_Sub.enc x0) : Int))) (
   cond (decide (0 ≤ x5) && decide (x5 < (List.length (List.map api_Sub.enc x0) : Int))) (
    cond (decide (0 ≤ x5) && decide (x5 < (List.length (List.map api_Sub.enc x1) : Int))) (
     cond (!(((dStr (cellAt (elemAt (List.map api_Sub.enc x0) (Int.toNat x5)) 0)) == (dStr (cellAt (elemAt (List.map api_Sub.enc x1) (Int.toNat x5)) 0))) && (((dInt (cellAt (elemAt (List.map api_Sub.enc x0) (Int.toNat x5)) 1)) == (dInt (cellAt (elemAt (List.map api_Sub.enc x1) (Int.toNat x5)) 1))) && (((dBool (cellAt (elemAt (List.map api_Sub.enc x0) (Int.toNat x5)) 2)) == (dBool (cellAt (elemAt (List.map api_Sub.enc x1) (Int.toNat x5)) 2))) && true)))) (
      (some (.ret [.d (.bool false)] [] []))) (
     R49_4 (C49 Γ) Λ2 J (List.map api_Sub.enc x0) (List.map api_Sub.enc x1) (IntKind.wrap .i64 (x5 + 1)))) none) none) (
  (some (.ret [.d (.bool true)] [] []))) := by kernel_rfl
abbrev X49 : CFun := C49 (callG SE good)
theorem Cr49 : C49 (callG SE good) = bindC (callG SE good) := by unfold C49; rfl
noncomputable abbrev Q49_4 (a0 : (List (List D))) (a1 : (List (List D))) (a2 : Int) : Res := R49_4 X49 (lam2 SE (callG SE good) (SE.hl 49) (SE.hr 49)) (J0 SE X49) a0 a1 a2
theorem brokerref06_SameSubs_l4_ok : ∀ (fu : Nat) (x0 : (List api_Sub)) (x1 : (List api_Sub)) (x5 : Int), Le (Option.map brokerref06_SameSubs_out (brokerref06_SameSubs_l4 fu x0 x1 x5)) (Q49_4 (List.map api_Sub.enc x0) (List.map api_Sub.enc x1) x5) := by
  intro fu
  induction fu with
  | zero => intros; exact le_none
  | succ fu ih =>
    intro x0 x1 x5
    refine Le.trans ?_ (le_of_eq ((lab_realC Cr49).trans (T49_4 _ _ _  x0 x1 x5)).symm)
    unfold brokerref06_SameSubs_l4
    refine le_cond (by simp only [EN]) (fun _ => ?_) (fun _ => ?_)
    · skip
      refine le_cond (by simp only [EN]) (fun _ => ?_) (fun _ => le_none)
      refine le_cond (by simp only [EN]) (fun _ => ?_) (fun _ => le_none)
      refine le_cond (by simp only [EN]) (fun _ => ?_) (fun _ => ?_)
      · skip
        exact le_ret (by first | rfl | (simp only [EN, brokerref06_SameSubs_out]; done) | (simp only [EN, brokerref06_SameSubs_out]; rfl))
      · skip
        exact ih x0 x1 (IntKind.wrap .i64 (x5 + 1))
    · skip
      exact le_ret (by first | rfl | (simp only [EN, brokerref06_SameSubs_out]; done) | (simp only [EN, brokerref06_SameSubs_out]; rfl))
theorem brokerref06_SameSubs_ok (p0 : (List api_Sub)) (p1 : (List api_Sub)) : Le (Option.map brokerref06_SameSubs_out (brokerref06_SameSubs p0 p1)) (callW SE 49 [.d (.sl api_Sub.ks (List.map api_Sub.enc p0)), .d (.sl api_Sub.ks (List.map api_Sub.enc p1))] [] []) := by
  refine le_bodyC Cr49 ?_
  refine Le.trans ?_ (le_of_eq (T49 _ _ _  p0 p1).symm)
  unfold brokerref06_SameSubs
  refine le_cond (by simp only [EN]) (fun _ => ?_) (fun _ => ?_)
  · skip
    exact le_ret (by first | rfl | (simp only [EN, brokerref06_SameSubs_out]; done) | (simp only [EN, brokerref06_SameSubs_out]; rfl))
  · skip
    exact brokerref06_SameSubs_l4_ok fuel p0 p1 0
def C50 (Γ : Fun)  : CFun := bindC Γ
def R50_4 (C : CFun) (Λ2 J : Lam) (a0 : (List (List D))) (a1 : (List (List D))) (a2 : Int) : Res := lab SE C Λ2 J 50 0 [1, 1, 0, 1, 0] (stoOf [(0, .d (.sl [.str] a0)), (1, .d (.sl [.str] a1)), (5, .d (.int .i64 a2))] [] [] [] [])
theorem T50 (Γ : Fun)  (Λ2 J : Lam) (p0 : (List Str)) (p1 : (List Str)) : bodyC SE (C50 Γ) Λ2 J 50 [.d (.sl [.str] (List.map encS p0)), .d (.sl [.str] (List.map encS p1))] [] [] =
  cond ((List.length (List.map encS p0) : Int) != (List.length (List.map encS p1) : Int)) (
   (some (.ret [.d (.bool false)] [] []))) (
  R50_4 (C50 Γ) Λ2 J (List.map encS p0) (List.map encS p1) 0) := by kernel_rfl
theorem T50_4 (Γ : Fun)  (Λ2 J : Lam) (x0 : (List Str)) (x1 : (List Str)) (x5 : Int) : labU SE (C50 Γ) Λ2 J 50 0 [1, 1, 0, 1, 0] (stoOf [(0, .d (.sl [.str] (List.map encS x0))), (1, .d (.sl [.str] (List.map encS x1))), (5, .d (.int .i64 x5))] [] [] [] []) =
  cond (decide (x5 < (List.length (List.map encS x0) : Int))) (
   cond (decide (0 ≤ x5) && decide (x5 < (List.length (List.map encS x0) : Int))) (
    cond (decide (0 ≤ x5) && decide (x5 < (List.length (List.map encS x1) : Int))) (
     cond (!((dStr (cellAt (elemAt (List.map encS x0) (Int.toNat x5)) 0)) == (dStr (cellAt (elemAt (List.map encS x1) (Int.toNat x5)) 0)))) (
      (some (.ret [.d (.bool false)] [] []))) (
     R50_4 (C50 Γ) Λ2 J (List.map encS x0) (List.map encS x1) (IntKind.wrap .i64 (x5 + 1)))) none) none) (
  (some (.ret [.d (.bool true)] [] []))) := by kernel_rfl
abbrev X50 : CFun := C50 (callG SE good)
theorem Cr50 : C50 (callG SE good) = bindC (callG SE good) := by unfold C50; rfl
noncomputable abbrev Q50_4 (a0 : (List (List D))) (a1 : (List (List D))) (a2 : Int) : Res := R50_4 X50 (lam2 SE (callG SE good) (SE.hl 50) (SE.hr 50)) (J0 SE X50) a0 a1 a2
theorem brokerref01_Same_l4_ok : ∀ (fu : Nat) (x0 : (List Str)) (x1 : (List Str)) (x5 : Int), Le (Option.map brokerref01_Same_out (brokerref01_Same_l4 fu x0 x1 x5)) (Q50_4 (List.map encS x0) (List.map encS x1) x5) := by
  intro fu
  induction fu with
  | zero => intros; exact le_none
  | succ fu ih =>
    intro x0 x1 x5
    refine Le.trans ?_ (le_of_eq ((lab_realC Cr50).trans (T50_4 _ _ _  x0 x1 x5)).symm)
    unfold brokerref01_Same_l4
    refine le_cond (by simp only [EN]) (fun _ => ?_) (fun _ => ?_)
    · skip
      refine le_cond (by simp only [EN]) (fun _ => ?_) (fun _ => le_none)
      refine le_cond (by simp only [EN]) (fun _ => ?_) (fun _ => le_none)
      refine le_cond (by simp only [EN]) (fun _ => ?_) (fun _ => ?_)
      · skip
        exact le_ret (by first | rfl | (simp only [EN, brokerref01_Same_out]; done) | (simp only [EN, brokerref01_Same_out]; rfl))
      · skip
        exact ih x0 x1 (IntKind.wrap .i64 (x5 + 1))
    · skip
      exact le_ret (by first | rfl | (simp only [EN, brokerref01_Same_out]; done) | (simp only [EN, brokerref01_Same_out]; rfl))
theorem brokerref01_Same_ok (p0 : (List Str)) (p1 : (List Str)) : Le (Option.map brokerref01_Same_out (brokerref01_Same p0 p1)) (callW SE 50 [.d (.sl [.str] (List.map encS p0)), .d (.sl [.str] (List.map encS p1))] [] []) := by
  refine le_bodyC Cr50 ?_
  refine Le.trans ?_ (le_of_eq (T50 _ _ _  p0 p1).symm)
  unfold brokerref01_Same
  refine le_cond (by simp only [EN]) (fun _ => ?_) (fun _ => ?_)
  · skip
    exact le_ret (by first | rfl | (simp only [EN, brokerref01_Same_out]; done) | (simp only [EN, brokerref01_Same_out]; rfl))
  · skip
    exact brokerref01_Same_l4_ok fuel p0 p1 0
def C51 (Γ : Fun)  : CFun := bindC Γ
def R51_4 (C : CFun) (Λ2 J : Lam) (a0 : (List (List D))) (a1 : (List (List D))) (a2 : Int) : Res := lab SE C Λ2 J 51 0 [1, 1, 0, 1, 0] (stoOf [(0, .d (.sl [.int .i64] a0)), (1, .d (.sl [.int .i64] a1)), (5, .d (.int .i64 a2))] [] [] [] [])
theorem T51 (Γ : Fun)  (Λ2 J : Lam) (p0 : (List Int)) (p1 : (List Int)) : bodyC SE (C51 Γ) Λ2 J 51 [.d (.sl [.int .i64] (List.map (encI .i64) p0)), .d (.sl [.int .i64] (List.map (encI .i64) p1))] [] [] =
  cond ((List.length (List.map (encI .i64) p0) : Int) != (List.length (List.map (encI .i64) p1) : Int)) (
   (some (.ret [.d (.bool false)] [] []))) (
  R51_4 (C51 Γ) Λ2 J (List.map (encI .i64) p0) (List.map (encI .i64) p1) 0) := by kernel_rfl
theorem T51_4 (Γ : Fun)  (Λ2 J : Lam) (x0 : (List Int)) (x1 : (List Int)) (x5 : Int) : labU SE (C51 Γ) Λ2 J 51 0 [1, 1, 0, 1, 0] (stoOf [(0, .d (.sl [.int .i64] (List.map (encI .i64) x0))), (1, .d (.sl [.int .i64] (List.map (encI .i64) x1))), (5, .d (.int .i64 x5))] [] [] [] []) =
  cond (decide (x5 < (List.length (List.map (encI .i64) x0) : Int))) (
   cond (decide (0 ≤ x5) && decide (x5 < (List.length (List.map (encI .i64) x0) : Int))) (
    cond (decide (0 ≤ x5) && decide (x5 < (List.length (List.map (encI .i64) x1) : Int))) (
     cond ((dInt (cellAt (elemAt (List.map (encI .i64) x0) (Int.toNat x5)) 0)) != (dInt (cellAt (elemAt (List.map (encI .i64) x1) (Int.toNat x5)) 0))) (
      (some (.ret [.d (.bool false)] [] []))) (
     R51_4 (C51 Γ) Λ2 J (List.map (encI .i64) x0) (List.map (encI .i64) x1) (IntKind.wrap .i64 (x5 + 1)))) none) none) (
  (some (.ret [.d (.bool true)] [] []))) := by kernel_rfl
abbrev X51 : CFun := C51 (callG SE good)
theorem Cr51 : C51 (callG SE good) = bindC (callG SE good) := by unfold C51; rfl
noncomputable abbrev Q51_4 (a0 : (List (List D))) (a1 : (List (List D))) (a2 : Int) : Res := R51_4 X51 (lam2 SE (callG SE good) (SE.hl 51) (SE.hr 51)) (J0 SE X51) a0 a1 a2
theorem brokerref06_SameNumbers_l4_ok : ∀ (fu : Nat) (x0 : (List Int)) (x1 : (List Int)) (x5 : Int), Le (Option.map brokerref06_SameNumbers_out (brokerref06_SameNumbers_l4 fu x0 x1 x5)) (Q51_4 (List.map (encI .i64) x0) (List.map (encI .i64) x1) x5) := by
  intro fu
  induction fu with
  | zero => intros; exact le_none
  | succ fu ih =>
    intro x0 x1 x5
    refine Le.trans ?_ (le_of_eq ((lab_realC Cr51).trans (T51_4 _ _ _  x0 x1 x5)).symm)
    unfold brokerref06_SameNumbers_l4
    refine le_cond (by simp only [EN]) (fun _ => ?_) (fun _ => ?_)
    · skip
      refine le_cond (by simp only [EN]) (fun _ => ?_) (fun _ => le_none)
      refine le_cond (by simp only [EN]) (fun _ => ?_) (fun _ => le_none)
      refine le_cond (by simp only [EN]) (fun _ => ?_) (fun _ => ?_)
      · skip
        exact le_ret (by first | rfl | (simp only [EN, brokerref06_SameNumbers_out]; done) | (simp only [EN, brokerref06_SameNumbers_out]; rfl))
      · skip
        exact ih x0 x1 (IntKind.wrap .i64 (x5 + 1))
    · skip
      exact le_ret (by first | rfl | (simp only [EN, brokerref06_SameNumbers_out]; done) | (simp only [EN, brokerref06_SameNumbers_out]; rfl))
theorem brokerref06_SameNumbers_ok (p0 : (List Int)) (p1 : (List Int)) : Le (Option.map brokerref06_SameNumbers_out (brokerref06_SameNumbers p0 p1)) (callW SE 51 [.d (.sl [.int .i64] (List.map (encI .i64) p0)), .d (.sl [.int .i64] (List.map (encI .i64) p1))] [] []) := by
  refine le_bodyC Cr51 ?_
  refine Le.trans ?_ (le_of_eq (T51 _ _ _  p0 p1).symm)
  unfold brokerref06_SameNumbers
  refine le_cond (by simp only [EN]) (fun _ => ?_) (fun _ => ?_)
  · skip
    exact le_ret (by first | rfl | (simp only [EN, brokerref06_SameNumbers_out]; done) | (simp only [EN, brokerref06_SameNumbers_out]; rfl))
  · skip
    exact brokerref06_SameNumbers_l4_ok fuel p0 p1 0
def C18 (Γ : Fun) (γ47 : Gm (Bool)) (γ48 : Gm (Bool)) (γ49 : Gm (Bool)) (γ50 : Gm (Bool)) (γ51 : Gm (Bool)) : CFun := updC (updC (updC (updC (updC (bindC Γ) 47 brokerref05_Same_out γ47) 48 brokerref06_SameWill_out γ48) 49 brokerref06_SameSubs_out γ49) 50 brokerref01_Same_out γ50) 51 brokerref06_SameNumbers_out γ51
def R18_5 (C : CFun) (Λ2 J : Lam) (a0 : (List D)) (a1 : (List D)) : Res := lab SE C Λ2 J 18 0 [1, 1, 1, 0] (stoOf [(2, .ptr 1000000000 0), (3, .ptr 1000000001 0)] [⟨31, (List.map AV.d a0)⟩, ⟨31, (List.map AV.d a1)⟩] [] [] [])
def R18_3 (C : CFun) (Λ2 J : Lam) (a0 : (List D)) (a1 : (List D)) : Res := lab SE C Λ2 J 18 0 [1, 1, 0, 0] (stoOf [(2, .ptr 1000000000 0), (3, .ptr 1000000001 0)] [⟨31, (List.map AV.d a0)⟩, ⟨31, (List.map AV.d a1)⟩] [] [] [])
theorem T18 (Γ : Fun) (γ47 : Gm (Bool)) (γ48 : Gm (Bool)) (γ49 : Gm (Bool)) (γ50 : Gm (Bool)) (γ51 : Gm (Bool)) (Λ2 J : Lam) (p0 : api_Packet) (p1 : api_Packet) : bodyC SE (C18 Γ γ47 γ48 γ49 γ50 γ51) Λ2 J 18 [api_Packet.av p0, api_Packet.av p1] [] [] =
  cond (p0.Kind != p1.Kind) (
   (some (.ret [.d (.bool false)] [] []))) (
  cond (p0.ID != p1.ID) (
   (some (.ret [.d (.bool false)] [] []))) (
  cond (p0.Dup != p1.Dup) (
   (some (.ret [.d (.bool false)] [] []))) (
  γ47 [api_Message.av p0.Message, api_Message.av p1.Message] [] [] fun r0 =>
  cond (!r0) (
   (some (.ret [.d (.bool false)] [] []))) (
  cond (!(p0.Client == p1.Client)) (
   (some (.ret [.d (.bool false)] [] []))) (
  cond (!(p0.User == p1.User)) (
   (some (.ret [.d (.bool false)] [] []))) (
  R18_3 (C18 Γ γ47 γ48 γ49 γ50 γ51) Λ2 J (api_Packet.enc p0) (api_Packet.enc p1))))))) := by kernel_rfl
theorem T18_5 (Γ : Fun) (γ47 : Gm (Bool)) (γ48 : Gm (Bool)) (γ49 : Gm (Bool)) (γ50 : Gm (Bool)) (γ51 : Gm (Bool)) (Λ2 J : Lam) (b0 : api_Packet) (b1 : api_Packet) : labU SE (C18 Γ γ47 γ48 γ49 γ50 γ51) Λ2 J 18 0 [1, 1, 1, 0] (stoOf [(2, .ptr 1000000000 0), (3, .ptr 1000000001 0)] [⟨31, (List.map AV.d (api_Packet.enc b0))⟩, ⟨31, (List.map AV.d (api_Packet.enc b1))⟩] [] [] []) =
  cond (b0.Present == b1.Present) (
   cond (b0.Code == b1.Code) (
    γ49 [.d (.sl api_Sub.ks (List.map api_Sub.enc b0.Subs)), .d (.sl api_Sub.ks (List.map api_Sub.enc b1.Subs))] [] [] fun r2 =>
    cond r2 (
     γ50 [.d (.sl [.str] (List.map encS b0.Filters)), .d (.sl [.str] (List.map encS b1.Filters))] [] [] fun r3 =>
     cond r3 (
      γ51 [.d (.sl [.int .i64] (List.map (encI .i64) b0.Codes)), .d (.sl [.int .i64] (List.map (encI .i64) b1.Codes))] [] [] fun r4 =>
      (some (.ret [.d (.bool r4)] [] []))) (
     (some (.ret [.d (.bool false)] [] [])))) (
    (some (.ret [.d (.bool false)] [] [])))) (
   (some (.ret [.d (.bool false)] [] [])))) (
  (some (.ret [.d (.bool false)] [] []))) := by kernel_rfl
theorem T18_3 (Γ : Fun) (γ47 : Gm (Bool)) (γ48 : Gm (Bool)) (γ49 : Gm (Bool)) (γ50 : Gm (Bool)) (γ51 : Gm (Bool)) (Λ2 J : Lam) (b0 : api_Packet) (b1 : api_Packet) : labU SE (C18 Γ γ47 γ48 γ49 γ50 γ51) Λ2 J 18 0 [1, 1, 0, 0] (stoOf [(2, .ptr 1000000000 0), (3, .ptr 1000000001 0)] [⟨31, (List.map AV.d (api_Packet.enc b0))⟩, ⟨31, (List.map AV.d (api_Packet.enc b1))⟩] [] [] []) =
  cond (b0.Clean != b1.Clean) (
   (some (.ret [.d (.bool false)] [] []))) (
  cond (b0.Keep != b1.Keep) (
   (some (.ret [.d (.bool false)] [] []))) (
  cond (b0.Expiry != b1.Expiry) (
   (some (.ret [.d (.bool false)] [] []))) (
  cond (b0.Window != b1.Window) (
   (some (.ret [.d (.bool false)] [] []))) (
  γ48 [api_Will.av b0.Will, api_Will.av b1.Will] [] [] fun r1 =>
  cond (!r1) (
   (some (.ret [.d (.bool false)] [] []))) (
  R18_5 (C18 Γ γ47 γ48 γ49 γ50 γ51) Λ2 J (api_Packet.enc b0) (api_Packet.enc b1)))))) := by kernel_rfl
abbrev X18 : CFun := C18 (callG SE good) (callT SE good 47 brokerref05_Same_out) (callT SE good 48 brokerref06_SameWill_out) (callT SE good 49 brokerref06_SameSubs_out) (callT SE good 50 brokerref01_Same_out) (callT SE good 51 brokerref06_SameNumbers_out)
theorem Cr18 : C18 (callG SE good) (callT SE good 47 brokerref05_Same_out) (callT SE good 48 brokerref06_SameWill_out) (callT SE good 49 brokerref06_SameSubs_out) (callT SE good 50 brokerref01_Same_out) (callT SE good 51 brokerref06_SameNumbers_out) = bindC (callG SE good) := by unfold C18; rw [updC_real (fun _ h => h), updC_real (fun _ h => h), updC_real (fun _ h => h), updC_real (fun _ h => h), updC_real (fun _ h => h)]
noncomputable abbrev Q18_5 (a0 : (List D)) (a1 : (List D)) : Res := R18_5 X18 (lam2 SE (callG SE good) (SE.hl 18) (SE.hr 18)) (J0 SE X18) a0 a1
noncomputable abbrev Q18_3 (a0 : (List D)) (a1 : (List D)) : Res := R18_3 X18 (lam2 SE (callG SE good) (SE.hl 18) (SE.hr 18)) (J0 SE X18) a0 a1
theorem brokerref06_Same_j5_ok (b0 : api_Packet) (b1 : api_Packet) : Le (Option.map brokerref06_Same_out (brokerref06_Same_j5 b0 b1)) (Q18_5 (api_Packet.enc b0) (api_Packet.enc b1)) := by
  refine Le.trans ?_ (le_of_eq ((lab_realC Cr18).trans (T18_5 _ _ _ _ _ _ _ _  b0 b1)).symm)
  unfold brokerref06_Same_j5
  refine le_cond rfl (fun _ => ?_) (fun _ => ?_)
  · skip
    refine le_cond rfl (fun _ => ?_) (fun _ => ?_)
    · skip
      refine le_call (good := good) (fun y => ⟨y, rfl⟩) brokerref06_SameSubs_inj (brokerref06_SameSubs_ok b0.Subs b1.Subs) (fun r2 _ => ?_)
      refine le_cond rfl (fun _ => ?_) (fun _ => ?_)
      · skip
        refine le_call (good := good) (fun y => ⟨y, rfl⟩) brokerref01_Same_inj (brokerref01_Same_ok b0.Filters b1.Filters) (fun r3 _ => ?_)
        refine le_cond rfl (fun _ => ?_) (fun _ => ?_)
        · skip
          refine le_call (good := good) (fun y => ⟨y, rfl⟩) brokerref06_SameNumbers_inj (brokerref06_SameNumbers_ok b0.Codes b1.Codes) (fun r4 _ => ?_)
          exact le_ret (by first | rfl | (simp only [EN, brokerref06_Same_out]; done) | (simp only [EN, brokerref06_Same_out]; rfl))
        · skip
          exact le_ret (by first | rfl | (simp only [EN, brokerref06_Same_out]; done) | (simp only [EN, brokerref06_Same_out]; rfl))
      · skip
        exact le_ret (by first | rfl | (simp only [EN, brokerref06_Same_out]; done) | (simp only [EN, brokerref06_Same_out]; rfl))
    · skip
      exact le_ret (by first | rfl | (simp only [EN, brokerref06_Same_out]; done) | (simp only [EN, brokerref06_Same_out]; rfl))
  · skip
    exact le_ret (by first | rfl | (simp only [EN, brokerref06_Same_out]; done) | (simp only [EN, brokerref06_Same_out]; rfl))
theorem brokerref06_Same_j3_ok (b0 : api_Packet) (b1 : api_Packet) : Le (Option.map brokerref06_Same_out (brokerref06_Same_j3 b0 b1)) (Q18_3 (api_Packet.enc b0) (api_Packet.enc b1)) := by
  refine Le.trans ?_ (le_of_eq ((lab_realC Cr18).trans (T18_3 _ _ _ _ _ _ _ _  b0 b1)).symm)
  unfold brokerref06_Same_j3
  refine le_cond rfl (fun _ => ?_) (fun _ => ?_)
  · skip
    exact le_ret (by first | rfl | (simp only [EN, brokerref06_Same_out]; done) | (simp only [EN, brokerref06_Same_out]; rfl))
  · skip
    refine le_cond rfl (fun _ => ?_) (fun _ => ?_)
    · skip
      exact le_ret (by first | rfl | (simp only [EN, brokerref06_Same_out]; done) | (simp only [EN, brokerref06_Same_out]; rfl))
    · skip
      refine le_cond rfl (fun _ => ?_) (fun _ => ?_)
      · skip
        exact le_ret (by first | rfl | (simp only [EN, brokerref06_Same_out]; done) | (simp only [EN, brokerref06_Same_out]; rfl))
      · skip
        refine le_cond rfl (fun _ => ?_) (fun _ => ?_)
        · skip
          exact le_ret (by first | rfl | (simp only [EN, brokerref06_Same_out]; done) | (simp only [EN, brokerref06_Same_out]; rfl))
        · skip
          refine le_call (good := good) (fun y => ⟨y, rfl⟩) brokerref06_SameWill_inj (brokerref06_SameWill_ok b0.Will b1.Will) (fun r1 _ => ?_)
          refine le_cond rfl (fun _ => ?_) (fun _ => ?_)
          · skip
            exact le_ret (by first | rfl | (simp only [EN, brokerref06_Same_out]; done) | (simp only [EN, brokerref06_Same_out]; rfl))
          · skip
            exact brokerref06_Same_j5_ok b0 b1
theorem brokerref06_Same_ok (p0 : api_Packet) (p1 : api_Packet) : Le (Option.map brokerref06_Same_out (brokerref06_Same p0 p1)) (callW SE 18 [api_Packet.av p0, api_Packet.av p1] [] []) := by
  refine le_bodyC Cr18 ?_
  refine Le.trans ?_ (le_of_eq (T18 _ _ _ _ _ _ _ _  p0 p1).symm)
  unfold brokerref06_Same
  refine le_cond rfl (fun _ => ?_) (fun _ => ?_)
  · skip
    exact le_ret (by first | rfl | (simp only [EN, brokerref06_Same_out]; done) | (simp only [EN, brokerref06_Same_out]; rfl))
  · skip
    refine le_cond rfl (fun _ => ?_) (fun _ => ?_)
    · skip
      exact le_ret (by first | rfl | (simp only [EN, brokerref06_Same_out]; done) | (simp only [EN, brokerref06_Same_out]; rfl))
    · skip
      refine le_cond rfl (fun _ => ?_) (fun _ => ?_)
      · skip
        exact le_ret (by first | rfl | (simp only [EN, brokerref06_Same_out]; done) | (simp only [EN, brokerref06_Same_out]; rfl))
      · skip
        refine le_call (good := good) (fun y => ⟨y, rfl⟩) brokerref05_Same_inj (brokerref05_Same_ok p0.Message p1.Message) (fun r0 _ => ?_)
        refine le_cond rfl (fun _ => ?_) (fun _ => ?_)
        · skip
          exact le_ret (by first | rfl | (simp only [EN, brokerref06_Same_out]; done) | (simp only [EN, brokerref06_Same_out]; rfl))
        · skip
          refine le_cond rfl (fun _ => ?_) (fun _ => ?_)
          · skip
            exact le_ret (by first | rfl | (simp only [EN, brokerref06_Same_out]; done) | (simp only [EN, brokerref06_Same_out]; rfl))
          · skip
            refine le_cond rfl (fun _ => ?_) (fun _ => ?_)
            · skip
              exact le_ret (by first | rfl | (simp only [EN, brokerref06_Same_out]; done) | (simp only [EN, brokerref06_Same_out]; rfl))
            · skip
              exact brokerref06_Same_j3_ok p0 p1
def C68 (Γ : Fun)  : CFun := bindC Γ
theorem T68 (Γ : Fun)  (Λ2 J : Lam) (p0 : Int) : bodyC SE (C68 Γ) Λ2 J 68 [.d (.int .u8 p0)] [] [] =
  cond (decide (p0 ≥ 97)) (
   (some (.ret [.d (.bool (decide (p0 ≤ 122)))] [] []))) (
  (some (.ret [.d (.bool false)] [] []))) := by kernel_rfl
abbrev X68 : CFun := C68 (callG SE good)
theorem Cr68 : C68 (callG SE good) = bindC (callG SE good) := by unfold C68; rfl
theorem brokerref01_lower_ok (p0 : Int) : Le (Option.map brokerref01_lower_out (brokerref01_lower p0)) (callW SE 68 [.d (.int .u8 p0)] [] []) := by
  refine le_bodyC Cr68 ?_
  refine Le.trans ?_ (le_of_eq (T68 _ _ _  p0).symm)
  unfold brokerref01_lower
  refine le_cond rfl (fun _ => ?_) (fun _ => ?_)
  · skip
    exact le_ret (by first | rfl | (simp only [EN, brokerref01_lower_out]; done) | (simp only [EN, brokerref01_lower_out]; rfl))
  · skip
    exact le_ret (by first | rfl | (simp only [EN, brokerref01_lower_out]; done) | (simp only [EN, brokerref01_lower_out]; rfl))
def C69 (Γ : Fun)  : CFun := bindC Γ
theorem T69 (Γ : Fun)  (Λ2 J : Lam) (p0 : Int) : bodyC SE (C69 Γ) Λ2 J 69 [.d (.int .u8 p0)] [] [] =
  cond (decide (p0 ≥ 48)) (
   (some (.ret [.d (.bool (decide (p0 ≤ 57)))] [] []))) (
  (some (.ret [.d (.bool false)] [] []))) := by kernel_rfl
abbrev X69 : CFun := C69 (callG SE good)
theorem Cr69 : C69 (callG SE good) = bindC (callG SE good) := by unfold C69; rfl
theorem brokerref01_digit_ok (p0 : Int) : Le (Option.map brokerref01_digit_out (brokerref01_digit p0)) (callW SE 69 [.d (.int .u8 p0)] [] []) := by
  refine le_bodyC Cr69 ?_
  refine Le.trans ?_ (le_of_eq (T69 _ _ _  p0).symm)
  unfold brokerref01_digit
  refine le_cond rfl (fun _ => ?_) (fun _ => ?_)
  · skip
    exact le_ret (by first | rfl | (simp only [EN, brokerref01_digit_out]; done) | (simp only [EN, brokerref01_digit_out]; rfl))
  · skip
    exact le_ret (by first | rfl | (simp only [EN, brokerref01_digit_out]; done) | (simp only [EN, brokerref01_digit_out]; rfl))
def C56 (Γ : Fun) (γ68 : Gm (Bool)) (γ69 : Gm (Bool)) : CFun := updC (updC (bindC Γ) 68 brokerref01_lower_out γ68) 69 brokerref01_digit_out γ69
def R56_4 (C : CFun) (Λ2 J : Lam) (a0 : Str) (a1 : Int) : Res := lab SE C Λ2 J 56 0 [1, 1, 0, 1, 0] (stoOf [(0, .d (.str a0)), (3, .d (.int .i64 a1))] [] [] [] [])
def R56_3 (C : CFun) (Λ2 J : Lam) (a0 : Str) : Res := lab SE C Λ2 J 56 0 [1, 1, 0, 0] (stoOf [(0, .d (.str a0))] [] [] [] [])
theorem T56 (Γ : Fun) (γ68 : Gm (Bool)) (γ69 : Gm (Bool)) (Λ2 J : Lam) (p0 : Str) : bodyC SE (C56 Γ γ68 γ69) Λ2 J 56 [.d (.str p0)] [] [] =
  cond (decide ((List.length p0 : Int) < 1)) (
   (some (.ret [.d (.bool false)] [] []))) (
  cond (decide ((List.length p0 : Int) > 16)) (
   (some (.ret [.d (.bool false)] [] []))) (
  cond (decide (0 ≤ 0) && decide (0 < (List.length p0 : Int))) (
   γ68 [.d (.int .u8 (UInt8.toNat (List.getD p0 (Int.toNat 0) 0) : Int))] [] [] fun r0 =>
   cond (!r0) (
    (some (.ret [.d (.bool false)] [] []))) (
   R56_3 (C56 Γ γ68 γ69) Λ2 J p0)) none)) := by kernel_rfl
theorem T56_4 (Γ : Fun) (γ68 : Gm (Bool)) (γ69 : Gm (Bool)) (Λ2 J : Lam) (x0 : Str) (x3 : Int) : labU SE (C56 Γ γ68 γ69) Λ2 J 56 0 [1, 1, 0, 1, 0] (stoOf [(0, .d (.str x0)), (3, .d (.int .i64 x3))] [] [] [] []) =
  cond (decide (x3 < (List.length x0 : Int))) (
   cond (decide (0 ≤ x3) && decide (x3 < (List.length x0 : Int))) (
    γ68 [.d (.int .u8 (UInt8.toNat (List.getD x0 (Int.toNat x3) 0) : Int))] [] [] fun r1 =>
    cond (!r1) (
     cond (decide (0 ≤ x3) && decide (x3 < (List.length x0 : Int))) (
      γ69 [.d (.int .u8 (UInt8.toNat (List.getD x0 (Int.toNat x3) 0) : Int))] [] [] fun r2 =>
      cond (!r2) (
       cond (decide (0 ≤ x3) && decide (x3 < (List.length x0 : Int))) (
        cond ((UInt8.toNat (List.getD x0 (Int.toNat x3) 0) : Int) != 45) (
         (some (.ret [.d (.bool false)] [] []))) (
        R56_4 (C56 Γ γ68 γ69) Λ2 J x0 (IntKind.wrap .i64 (x3 + 1)))) none) (
      R56_4 (C56 Γ γ68 γ69) Λ2 J x0 (IntKind.wrap .i64 (x3 + 1)))) none) (
    R56_4 (C56 Γ γ68 γ69) Λ2 J x0 (IntKind.wrap .i64 (x3 + 1)))) none) (
  (some (.ret [.d (.bool true)] [] []))) := by kernel_rfl
theorem T56_3 (Γ : Fun) (γ68 : Gm (Bool)) (γ69 : Gm (Bool)) (Λ2 J : Lam) (x0 : Str) : labU SE (C56 Γ γ68 γ69) Λ2 J 56 0 [1, 1, 0, 0] (stoOf [(0, .d (.str x0))] [] [] [] []) =
  R56_4 (C56 Γ γ68 γ69) Λ2 J x0 0 := by kernel_rfl
abbrev X56 : CFun := C56 (callG SE good) (callT SE good 68 brokerref01_lower_out) (callT SE good 69 brokerref01_digit_out)
theorem Cr56 : C56 (callG SE good) (callT SE good 68 brokerref01_lower_out) (callT SE good 69 brokerref01_digit_out) = bindC (callG SE good) := by unfold C56; rw [updC_real (fun _ h => h), updC_real (fun _ h => h)]
noncomputable abbrev Q56_4 (a0 : Str) (a1 : Int) : Res := R56_4 X56 (lam2 SE (callG SE good) (SE.hl 56) (SE.hr 56)) (J0 SE X56) a0 a1
noncomputable abbrev Q56_3 (a0 : Str) : Res := R56_3 X56 (lam2 SE (callG SE good) (SE.hl 56) (SE.hr 56)) (J0 SE X56) a0
theorem brokerref01_Name_l4_ok : ∀ (fu : Nat) (x0 : Str) (x3 : Int), Le (Option.map brokerref01_Name_out (brokerref01_Name_l4 fu x0 x3)) (Q56_4 x0 x3) := by
  intro fu
  induction fu with
  | zero => intros; exact le_none
  | succ fu ih =>
    intro x0 x3
    refine Le.trans ?_ (le_of_eq ((lab_realC Cr56).trans (T56_4 _ _ _ _ _  x0 x3)).symm)
    unfold brokerref01_Name_l4
    refine le_cond rfl (fun _ => ?_) (fun _ => ?_)
    · skip
      refine le_cond rfl (fun _ => ?_) (fun _ => le_none)
      refine le_call (good := good) (fun y => ⟨y, rfl⟩) brokerref01_lower_inj (brokerref01_lower_ok (UInt8.toNat (List.getD x0 (Int.toNat x3) 0) : Int)) (fun r1 _ => ?_)
      refine le_cond rfl (fun _ => ?_) (fun _ => ?_)
      · skip
        refine le_cond rfl (fun _ => ?_) (fun _ => le_none)
        refine le_call (good := good) (fun y => ⟨y, rfl⟩) brokerref01_digit_inj (brokerref01_digit_ok (UInt8.toNat (List.getD x0 (Int.toNat x3) 0) : Int)) (fun r2 _ => ?_)
        refine le_cond rfl (fun _ => ?_) (fun _ => ?_)
        · skip
          refine le_cond rfl (fun _ => ?_) (fun _ => le_none)
          refine le_cond rfl (fun _ => ?_) (fun _ => ?_)
          · skip
            exact le_ret (by first | rfl | (simp only [EN, brokerref01_Name_out]; done) | (simp only [EN, brokerref01_Name_out]; rfl))
          · skip
            exact ih x0 (IntKind.wrap .i64 (x3 + 1))
        · skip
          exact ih x0 (IntKind.wrap .i64 (x3 + 1))
      · skip
        exact ih x0 (IntKind.wrap .i64 (x3 + 1))
    · skip
      exact le_ret (by first | rfl | (simp only [EN, brokerref01_Name_out]; done) | (simp only [EN, brokerref01_Name_out]; rfl))
theorem brokerref01_Name_j3_ok (x0 : Str) : Le (Option.map brokerref01_Name_out (brokerref01_Name_j3 x0)) (Q56_3 x0) := by
  refine Le.trans ?_ (le_of_eq ((lab_realC Cr56).trans (T56_3 _ _ _ _ _  x0)).symm)
  unfold brokerref01_Name_j3
  exact brokerref01_Name_l4_ok fuel x0 0
theorem brokerref01_Name_ok (p0 : Str) : Le (Option.map brokerref01_Name_out (brokerref01_Name p0)) (callW SE 56 [.d (.str p0)] [] []) := by
  refine le_bodyC Cr56 ?_
  refine Le.trans ?_ (le_of_eq (T56 _ _ _ _ _  p0).symm)
  unfold brokerref01_Name
  refine le_cond rfl (fun _ => ?_) (fun _ => ?_)
  · skip
    exact le_ret (by first | rfl | (simp only [EN, brokerref01_Name_out]; done) | (simp only [EN, brokerref01_Name_out]; rfl))
  · skip
    refine le_cond rfl (fun _ => ?_) (fun _ => ?_)
    · skip
      exact le_ret (by first | rfl | (simp only [EN, brokerref01_Name_out]; done) | (simp only [EN, brokerref01_Name_out]; rfl))
    · skip
      refine le_cond rfl (fun _ => ?_) (fun _ => le_none)
      refine le_call (good := good) (fun y => ⟨y, rfl⟩) brokerref01_lower_inj (brokerref01_lower_ok (UInt8.toNat (List.getD p0 (Int.toNat 0) 0) : Int)) (fun r0 _ => ?_)
      refine le_cond rfl (fun _ => ?_) (fun _ => ?_)
      · skip
        exact le_ret (by first | rfl | (simp only [EN, brokerref01_Name_out]; done) | (simp only [EN, brokerref01_Name_out]; rfl))
      · skip
        exact brokerref01_Name_j3_ok p0
def C82 (Γ : Fun)  : CFun := bindC Γ
def R82_2 (C : CFun) (Λ2 J : Lam) (a0 : Str) (a1 : Int) (a2 : Int) : Res := lab SE C Λ2 J 82 0 [1, 0, 1, 0] (stoOf [(0, .d (.str a0)), (1, .d (.int .u8 a1)), (5, .d (.int .i64 a2))] [] [] [] [])
theorem T82 (Γ : Fun)  (Λ2 J : Lam) (p0 : Str) (p1 : Int) : bodyC SE (C82 Γ) Λ2 J 82 [.d (.str p0), .d (.int .u8 p1)] [] [] =
  R82_2 (C82 Γ) Λ2 J p0 p1 0 := by kernel_rfl
theorem T82_2 (Γ : Fun)  (Λ2 J : Lam) (x0 : Str) (x1 : Int) (x5 : Int) : labU SE (C82 Γ) Λ2 J 82 0 [1, 0, 1, 0] (stoOf [(0, .d (.str x0)), (1, .d (.int .u8 x1)), (5, .d (.int .i64 x5))] [] [] [] []) =
  cond (decide (x5 < (List.length x0 : Int))) (
   cond (decide (0 ≤ x5) && decide (x5 < (List.length x0 : Int))) (
    cond ((UInt8.toNat (List.getD x0 (Int.toNat x5) 0) : Int) == x1) (
     (some (.ret [.d (.bool true)] [] []))) (
    R82_2 (C82 Γ) Λ2 J x0 x1 (IntKind.wrap .i64 (x5 + 1)))) none) (
  (some (.ret [.d (.bool false)] [] []))) := by kernel_rfl
abbrev X82 : CFun := C82 (callG SE good)
theorem Cr82 : C82 (callG SE good) = bindC (callG SE good) := by unfold C82; rfl
noncomputable abbrev Q82_2 (a0 : Str) (a1 : Int) (a2 : Int) : Res := R82_2 X82 (lam2 SE (callG SE good) (SE.hl 82) (SE.hr 82)) (J0 SE X82) a0 a1 a2
theorem brokerref01_Has_l2_ok : ∀ (fu : Nat) (x0 : Str) (x1 : Int) (x5 : Int), Le (Option.map brokerref01_Has_out (brokerref01_Has_l2 fu x0 x1 x5)) (Q82_2 x0 x1 x5) := by
  intro fu
  induction fu with
  | zero => intros; exact le_none
  | succ fu ih =>
    intro x0 x1 x5
    refine Le.trans ?_ (le_of_eq ((lab_realC Cr82).trans (T82_2 _ _ _  x0 x1 x5)).symm)
    unfold brokerref01_Has_l2
    refine le_cond rfl (fun _ => ?_) (fun _ => ?_)
    · skip
      refine le_cond rfl (fun _ => ?_) (fun _ => le_none)
      refine le_cond rfl (fun _ => ?_) (fun _ => ?_)
      · skip
        exact le_ret (by first | rfl | (simp only [EN, brokerref01_Has_out]; done) | (simp only [EN, brokerref01_Has_out]; rfl))
      · skip
        exact ih x0 x1 (IntKind.wrap .i64 (x5 + 1))
    · skip
      exact le_ret (by first | rfl | (simp only [EN, brokerref01_Has_out]; done) | (simp only [EN, brokerref01_Has_out]; rfl))
theorem brokerref01_Has_ok (p0 : Str) (p1 : Int) : Le (Option.map brokerref01_Has_out (brokerref01_Has p0 p1)) (callW SE 82 [.d (.str p0), .d (.int .u8 p1)] [] []) := by
  refine le_bodyC Cr82 ?_
  refine Le.trans ?_ (le_of_eq (T82 _ _ _  p0 p1).symm)
  unfold brokerref01_Has
  exact brokerref01_Has_l2_ok fuel p0 p1 0
def C84 (Γ : Fun)  : CFun := bindC Γ
def R84_4 (C : CFun) (Λ2 J : Lam) (a0 : Str) (a1 : Int) (a2 : Int) (a3 : (List (List D))) : Res := lab SE C Λ2 J 84 0 [1, 1, 1, 0, 1, 0] (stoOf [(0, .d (.str a0)), (3, .row 3003), (4, .d (.int .i64 a1)), (5, .d (.int .i64 a2))] [] [] [] [(3003, ⟨[.str], 9, 16, a3⟩)])
theorem T84 (Γ : Fun)  (Λ2 J : Lam) (p0 : Str) : bodyC SE (C84 Γ) Λ2 J 84 [.d (.str p0)] [] [] =
  R84_4 (C84 Γ) Λ2 J p0 0 0 (List.map encS []) := by kernel_rfl
theorem T84_4 (Γ : Fun)  (Λ2 J : Lam) (x0 : Str) (x4 : Int) (x5 : Int) (w3003 : (List Str)) : labU SE (C84 Γ) Λ2 J 84 0 [1, 1, 1, 0, 1, 0] (stoOf [(0, .d (.str x0)), (3, .row 3003), (4, .d (.int .i64 x4)), (5, .d (.int .i64 x5))] [] [] [] [(3003, ⟨[.str], 9, 16, (List.map encS w3003)⟩)]) =
  cond (decide (x5 < (List.length x0 : Int))) (
   cond (decide (0 ≤ x5) && decide (x5 < (List.length x0 : Int))) (
    cond ((UInt8.toNat (List.getD x0 (Int.toNat x5) 0) : Int) == 47) (
     cond (decide (0 ≤ x5) && decide (x5 ≤ ((List.length x0) : Int))) (
      cond (decide (0 ≤ x4) && decide (x4 ≤ x5)) (
       cond (decide ((List.length (List.map encS w3003) + List.length (List.map encS [(cutL x0 (some x4) (some x5))])) * 16 ≤ 140737488355328)) (
        R84_4 (C84 Γ) Λ2 J x0 (IntKind.wrap .i64 (x5 + 1)) (IntKind.wrap .i64 (x5 + 1)) (((List.map encS w3003) ++ (List.map encS [(cutL x0 (some x4) (some x5))])))) none) none) none) (
    R84_4 (C84 Γ) Λ2 J x0 x4 (IntKind.wrap .i64 (x5 + 1)) (List.map encS w3003))) none) (
  cond (decide (0 ≤ x4) && decide (x4 ≤ ((List.length x0) : Int))) (
   cond (decide ((List.length (List.map encS w3003) + List.length (List.map encS [(cutL x0 (some x4) none)])) * 16 ≤ 140737488355328)) (
    (some (.ret [.row 0] [] [⟨[.str], 9, 16, ((List.map encS w3003) ++ (List.map encS [(cutL x0 (some x4) none)]))⟩]))) none) none) := by kernel_rfl
abbrev X84 : CFun := C84 (callG SE good)
theorem Cr84 : C84 (callG SE good) = bindC (callG SE good) := by unfold C84; rfl
noncomputable abbrev Q84_4 (a0 : Str) (a1 : Int) (a2 : Int) (a3 : (List (List D))) : Res := R84_4 X84 (lam2 SE (callG SE good) (SE.hl 84) (SE.hr 84)) (J0 SE X84) a0 a1 a2 a3
theorem brokerref01_Levels_l4_ok : ∀ (fu : Nat) (x0 : Str) (x4 : Int) (x5 : Int) (w3003 : (List Str)), Le (Option.map brokerref01_Levels_out (brokerref01_Levels_l4 fu x0 x4 x5 w3003)) (Q84_4 x0 x4 x5 (List.map encS w3003)) := by
  intro fu
  induction fu with
  | zero => intros; exact le_none
  | succ fu ih =>
    intro x0 x4 x5 w3003
    refine Le.trans ?_ (le_of_eq ((lab_realC Cr84).trans (T84_4 _ _ _  x0 x4 x5 w3003)).symm)
    unfold brokerref01_Levels_l4
    refine le_cond rfl (fun _ => ?_) (fun _ => ?_)
    · skip
      refine le_cond rfl (fun _ => ?_) (fun _ => le_none)
      refine le_cond rfl (fun _ => ?_) (fun _ => ?_)
      · skip
        refine le_cond rfl (fun _ => ?_) (fun _ => le_none)
        refine le_cond rfl (fun _ => ?_) (fun _ => le_none)
        refine le_cond (by simp only [EN]) (fun _ => ?_) (fun _ => le_none)
        first | (simp only [EN]; exact ih x0 (IntKind.wrap .i64 (x5 + 1)) (IntKind.wrap .i64 (x5 + 1)) ((w3003 ++ [(cutL x0 (some x4) (some x5))]))) | exact ih x0 (IntKind.wrap .i64 (x5 + 1)) (IntKind.wrap .i64 (x5 + 1)) ((w3003 ++ [(cutL x0 (some x4) (some x5))]))
      · skip
        exact ih x0 x4 (IntKind.wrap .i64 (x5 + 1)) w3003
    · skip
      refine le_cond rfl (fun _ => ?_) (fun _ => le_none)
      refine le_cond (by simp only [EN]) (fun _ => ?_) (fun _ => le_none)
      exact le_ret (by first | rfl | (simp only [EN, brokerref01_Levels_out]; done) | (simp only [EN, brokerref01_Levels_out]; rfl))
theorem brokerref01_Levels_ok (p0 : Str) : Le (Option.map brokerref01_Levels_out (brokerref01_Levels p0)) (callW SE 84 [.d (.str p0)] [] []) := by
  refine le_bodyC Cr84 ?_
  refine Le.trans ?_ (le_of_eq (T84 _ _ _  p0).symm)
  unfold brokerref01_Levels
  first | (simp only [EN]; exact brokerref01_Levels_l4_ok fuel p0 0 0 ([] : List Str)) | exact brokerref01_Levels_l4_ok fuel p0 0 0 ([] : List Str)
def C81 (Γ : Fun) (γ82 : Gm (Bool)) (γ84 : Gm ((List Str))) : CFun := updC (updC (bindC Γ) 82 brokerref01_Has_out γ82) 84 brokerref01_Levels_out γ84
theorem T81 (Γ : Fun) (γ82 : Gm (Bool)) (γ84 : Gm ((List Str))) (Λ2 J : Lam) (p0 : Str) : bodyC SE (C81 Γ γ82 γ84) Λ2 J 81 [.d (.str p0)] [] [] =
  cond (decide ((List.length p0 : Int) ≥ 1)) (
   cond (decide ((List.length p0 : Int) ≤ 64)) (
    γ82 [.d (.str p0), .d (.int .u8 0)] [] [] fun r0 =>
    cond (!r0) (
     γ84 [.d (.str p0)] [] [] fun r1 =>
     (some (.ret [.d (.bool (decide ((List.length (List.map encS r1) : Int) ≤ 8)))] [] []))) (
    (some (.ret [.d (.bool false)] [] [])))) (
   (some (.ret [.d (.bool false)] [] [])))) (
  (some (.ret [.d (.bool false)] [] []))) := by kernel_rfl
abbrev X81 : CFun := C81 (callG SE good) (callT SE good 82 brokerref01_Has_out) (callT SE good 84 brokerref01_Levels_out)
theorem Cr81 : C81 (callG SE good) (callT SE good 82 brokerref01_Has_out) (callT SE good 84 brokerref01_Levels_out) = bindC (callG SE good) := by unfold C81; rw [updC_real (fun _ h => h), updC_real (fun _ h => h)]
theorem brokerref01_sized_ok (p0 : Str) : Le (Option.map brokerref01_sized_out (brokerref01_sized p0)) (callW SE 81 [.d (.str p0)] [] []) := by
  refine le_bodyC Cr81 ?_
  refine Le.trans ?_ (le_of_eq (T81 _ _ _ _ _  p0).symm)
  unfold brokerref01_sized
  refine le_cond rfl (fun _ => ?_) (fun _ => ?_)
  · skip
    refine le_cond rfl (fun _ => ?_) (fun _ => ?_)
    · skip
      refine le_call (good := good) (fun y => ⟨y, rfl⟩) brokerref01_Has_inj (brokerref01_Has_ok p0 0) (fun r0 _ => ?_)
      refine le_cond rfl (fun _ => ?_) (fun _ => ?_)
      · skip
        refine le_call (good := good) (fun y => ⟨y, rfl⟩) brokerref01_Levels_inj (brokerref01_Levels_ok p0) (fun r1 _ => ?_)
        exact le_ret (by first | rfl | (simp only [EN, brokerref01_sized_out]; done) | (simp only [EN, brokerref01_sized_out]; rfl))
      · skip
        exact le_ret (by first | rfl | (simp only [EN, brokerref01_sized_out]; done) | (simp only [EN, brokerref01_sized_out]; rfl))
    · skip
      exact le_ret (by first | rfl | (simp only [EN, brokerref01_sized_out]; done) | (simp only [EN, brokerref01_sized_out]; rfl))
  · skip
    exact le_ret (by first | rfl | (simp only [EN, brokerref01_sized_out]; done) | (simp only [EN, brokerref01_sized_out]; rfl))
def C70 (Γ : Fun) (γ81 : Gm (Bool)) (γ82 : Gm (Bool)) : CFun := updC (updC (bindC Γ) 81 brokerref01_sized_out γ81) 82 brokerref01_Has_out γ82
theorem T70 (Γ : Fun) (γ81 : Gm (Bool)) (γ82 : Gm (Bool)) (Λ2 J : Lam) (p0 : Str) : bodyC SE (C70 Γ γ81 γ82) Λ2 J 70 [.d (.str p0)] [] [] =
  γ81 [.d (.str p0)] [] [] fun r0 =>
  cond r0 (
   γ82 [.d (.str p0), .d (.int .u8 43)] [] [] fun r1 =>
   cond (!r1) (
    γ82 [.d (.str p0), .d (.int .u8 35)] [] [] fun r2 =>
    (some (.ret [.d (.bool (!r2))] [] []))) (
   (some (.ret [.d (.bool false)] [] [])))) (
  (some (.ret [.d (.bool false)] [] []))) := by kernel_rfl
abbrev X70 : CFun := C70 (callG SE good) (callT SE good 81 brokerref01_sized_out) (callT SE good 82 brokerref01_Has_out)
theorem Cr70 : C70 (callG SE good) (callT SE good 81 brokerref01_sized_out) (callT SE good 82 brokerref01_Has_out) = bindC (callG SE good) := by unfold C70; rw [updC_real (fun _ h => h), updC_real (fun _ h => h)]
theorem brokerref01_Valid_ok (p0 : Str) : Le (Option.map brokerref01_Valid_out (brokerref01_Valid p0)) (callW SE 70 [.d (.str p0)] [] []) := by
  refine le_bodyC Cr70 ?_
  refine Le.trans ?_ (le_of_eq (T70 _ _ _ _ _  p0).symm)
  unfold brokerref01_Valid
  refine le_call (good := good) (fun y => ⟨y, rfl⟩) brokerref01_sized_inj (brokerref01_sized_ok p0) (fun r0 _ => ?_)
  refine le_cond rfl (fun _ => ?_) (fun _ => ?_)
  · skip
    refine le_call (good := good) (fun y => ⟨y, rfl⟩) brokerref01_Has_inj (brokerref01_Has_ok p0 43) (fun r1 _ => ?_)
    refine le_cond rfl (fun _ => ?_) (fun _ => ?_)
    · skip
      refine le_call (good := good) (fun y => ⟨y, rfl⟩) brokerref01_Has_inj (brokerref01_Has_ok p0 35) (fun r2 _ => ?_)
      exact le_ret (by first | rfl | (simp only [EN, brokerref01_Valid_out]; done) | (simp only [EN, brokerref01_Valid_out]; rfl))
    · skip
      exact le_ret (by first | rfl | (simp only [EN, brokerref01_Valid_out]; done) | (simp only [EN, brokerref01_Valid_out]; rfl))
  · skip
    exact le_ret (by first | rfl | (simp only [EN, brokerref01_Valid_out]; done) | (simp only [EN, brokerref01_Valid_out]; rfl))
def C83 (Γ : Fun)  : CFun := bindC Γ
def R83_4 (C : CFun) (Λ2 J : Lam) (a0 : Str) (a1 : Int) : Res := lab SE C Λ2 J 83 0 [1, 1, 0, 1, 0] (stoOf [(0, .d (.str a0)), (3, .d (.int .i64 a1))] [] [] [] [])
def R83_3 (C : CFun) (Λ2 J : Lam) (a0 : Str) : Res := lab SE C Λ2 J 83 0 [1, 1, 0, 0] (stoOf [(0, .d (.str a0))] [] [] [] [])
theorem T83 (Γ : Fun)  (Λ2 J : Lam) (p0 : Str) : bodyC SE (C83 Γ) Λ2 J 83 [.d (.str p0)] [] [] =
  cond (decide ((List.length p0 : Int) < 1)) (
   (some (.ret [.d (.bool false)] [] []))) (
  cond (decide ((List.length p0 : Int) > 16)) (
   (some (.ret [.d (.bool false)] [] []))) (
  R83_3 (C83 Γ) Λ2 J p0)) := by kernel_rfl
theorem T83_4 (Γ : Fun)  (Λ2 J : Lam) (x0 : Str) (x3 : Int) : labU SE (C83 Γ) Λ2 J 83 0 [1, 1, 0, 1, 0] (stoOf [(0, .d (.str x0)), (3, .d (.int .i64 x3))] [] [] [] []) =
  cond (decide (x3 < (List.length x0 : Int))) (
   cond (decide (0 ≤ x3) && decide (x3 < (List.length x0 : Int))) (
    cond (decide ((UInt8.toNat (List.getD x0 (Int.toNat x3) 0) : Int) ≥ 97)) (
     cond (!(decide ((UInt8.toNat (List.getD x0 (Int.toNat x3) 0) : Int) ≤ 122))) (
      cond (decide ((UInt8.toNat (List.getD x0 (Int.toNat x3) 0) : Int) ≥ 48)) (
       cond (!(decide ((UInt8.toNat (List.getD x0 (Int.toNat x3) 0) : Int) ≤ 57))) (
        cond ((UInt8.toNat (List.getD x0 (Int.toNat x3) 0) : Int) != 45) (
         (some (.ret [.d (.bool false)] [] []))) (
        R83_4 (C83 Γ) Λ2 J x0 (IntKind.wrap .i64 (x3 + 1)))) (
       R83_4 (C83 Γ) Λ2 J x0 (IntKind.wrap .i64 (x3 + 1)))) (
      cond ((UInt8.toNat (List.getD x0 (Int.toNat x3) 0) : Int) != 45) (
       (some (.ret [.d (.bool false)] [] []))) (
      R83_4 (C83 Γ) Λ2 J x0 (IntKind.wrap .i64 (x3 + 1))))) (
     R83_4 (C83 Γ) Λ2 J x0 (IntKind.wrap .i64 (x3 + 1)))) (
    cond (decide ((UInt8.toNat (List.getD x0 (Int.toNat x3) 0) : Int) ≥ 48)) (
     cond (!(decide ((UInt8.toNat (List.getD x0 (Int.toNat x3) 0) : Int) ≤ 57))) (
      cond ((UInt8.toNat (List.getD x0 (Int.toNat x3) 0) : Int) != 45) (
       (some (.ret [.d (.bool false)] [] []))) (
      R83_4 (C83 Γ) Λ2 J x0 (IntKind.wrap .i64 (x3 + 1)))) (
     R83_4 (C83 Γ) Λ2 J x0 (IntKind.wrap .i64 (x3 + 1)))) (
    cond ((UInt8.toNat (List.getD x0 (Int.toNat x3) 0) : Int) != 45) (
     (some (.ret [.d (.bool false)] [] []))) (
    R83_4 (C83 Γ) Λ2 J x0 (IntKind.wrap .i64 (x3 + 1)))))) none) (
  (some (.ret [.d (.bool true)] [] []))) := by kernel_rfl
theorem T83_3 (Γ : Fun)  (Λ2 J : Lam) (x0 : Str) : labU SE (C83 Γ) Λ2 J 83 0 [1, 1, 0, 0] (stoOf [(0, .d (.str x0))] [] [] [] []) =
  R83_4 (C83 Γ) Λ2 J x0 0 := by kernel_rfl
abbrev X83 : CFun := C83 (callG SE good)
theorem Cr83 : C83 (callG SE good) = bindC (callG SE good) := by unfold C83; rfl
noncomputable abbrev Q83_4 (a0 : Str) (a1 : Int) : Res := R83_4 X83 (lam2 SE (callG SE good) (SE.hl 83) (SE.hr 83)) (J0 SE X83) a0 a1
noncomputable abbrev Q83_3 (a0 : Str) : Res := R83_3 X83 (lam2 SE (callG SE good) (SE.hl 83) (SE.hr 83)) (J0 SE X83) a0
theorem brokerref05_Key_l4_ok : ∀ (fu : Nat) (x0 : Str) (x3 : Int), Le (Option.map brokerref05_Key_out (brokerref05_Key_l4 fu x0 x3)) (Q83_4 x0 x3) := by
  intro fu
  induction fu with
  | zero => intros; exact le_none
  | succ fu ih =>
    intro x0 x3
    refine Le.trans ?_ (le_of_eq ((lab_realC Cr83).trans (T83_4 _ _ _  x0 x3)).symm)
    unfold brokerref05_Key_l4
    refine le_cond rfl (fun _ => ?_) (fun _ => ?_)
    · skip
      refine le_cond rfl (fun _ => ?_) (fun _ => le_none)
      refine le_cond rfl (fun _ => ?_) (fun _ => ?_)
      · skip
        refine le_cond rfl (fun _ => ?_) (fun _ => ?_)
        · skip
          refine le_cond rfl (fun _ => ?_) (fun _ => ?_)
          · skip
            refine le_cond rfl (fun _ => ?_) (fun _ => ?_)
            · skip
              refine le_cond rfl (fun _ => ?_) (fun _ => ?_)
              · skip
                exact le_ret (by first | rfl | (simp only [EN, brokerref05_Key_out]; done) | (simp only [EN, brokerref05_Key_out]; rfl))
              · skip
                exact ih x0 (IntKind.wrap .i64 (x3 + 1))
            · skip
              exact ih x0 (IntKind.wrap .i64 (x3 + 1))
          · skip
            refine le_cond rfl (fun _ => ?_) (fun _ => ?_)
            · skip
              exact le_ret (by first | rfl | (simp only [EN, brokerref05_Key_out]; done) | (simp only [EN, brokerref05_Key_out]; rfl))
            · skip
              exact ih x0 (IntKind.wrap .i64 (x3 + 1))
        · skip
          exact ih x0 (IntKind.wrap .i64 (x3 + 1))
      · skip
        refine le_cond rfl (fun _ => ?_) (fun _ => ?_)
        · skip
          refine le_cond rfl (fun _ => ?_) (fun _ => ?_)
          · skip
            refine le_cond rfl (fun _ => ?_) (fun _ => ?_)
            · skip
              exact le_ret (by first | rfl | (simp only [EN, brokerref05_Key_out]; done) | (simp only [EN, brokerref05_Key_out]; rfl))
            · skip
              exact ih x0 (IntKind.wrap .i64 (x3 + 1))
          · skip
            exact ih x0 (IntKind.wrap .i64 (x3 + 1))
        · skip
          refine le_cond rfl (fun _ => ?_) (fun _ => ?_)
          · skip
            exact le_ret (by first | rfl | (simp only [EN, brokerref05_Key_out]; done) | (simp only [EN, brokerref05_Key_out]; rfl))
          · skip
            exact ih x0 (IntKind.wrap .i64 (x3 + 1))
    · skip
      exact le_ret (by first | rfl | (simp only [EN, brokerref05_Key_out]; done) | (simp only [EN, brokerref05_Key_out]; rfl))
theorem brokerref05_Key_j3_ok (x0 : Str) : Le (Option.map brokerref05_Key_out (brokerref05_Key_j3 x0)) (Q83_3 x0) := by
  refine Le.trans ?_ (le_of_eq ((lab_realC Cr83).trans (T83_3 _ _ _  x0)).symm)
  unfold brokerref05_Key_j3
  exact brokerref05_Key_l4_ok fuel x0 0
theorem brokerref05_Key_ok (p0 : Str) : Le (Option.map brokerref05_Key_out (brokerref05_Key p0)) (callW SE 83 [.d (.str p0)] [] []) := by
  refine le_bodyC Cr83 ?_
  refine Le.trans ?_ (le_of_eq (T83 _ _ _  p0).symm)
  unfold brokerref05_Key
  refine le_cond rfl (fun _ => ?_) (fun _ => ?_)
  · skip
    exact le_ret (by first | rfl | (simp only [EN, brokerref05_Key_out]; done) | (simp only [EN, brokerref05_Key_out]; rfl))
  · skip
    refine le_cond rfl (fun _ => ?_) (fun _ => ?_)
    · skip
      exact le_ret (by first | rfl | (simp only [EN, brokerref05_Key_out]; done) | (simp only [EN, brokerref05_Key_out]; rfl))
    · skip
      exact brokerref05_Key_j3_ok p0
end Te
end PX
