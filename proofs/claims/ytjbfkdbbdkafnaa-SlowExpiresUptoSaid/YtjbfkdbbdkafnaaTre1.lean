import Derived.Test.YtjbfkdbbdkafnaaTre0
set_option linter.unusedVariables false
set_option linter.unusedSimpArgs false
set_option linter.unusedVariables false
set_option linter.unusedSimpArgs false
set_option maxRecDepth 100000
noncomputable section
namespace PX
open Go
open Md
namespace Te
def C6 (Γ : Fun) (γ19 : List AV → List Bx → List Rw → (((List api_Message)) → Res) → Res) (γ11 : List AV → List Bx → List Rw → (((List api_Message) × (List api_Message) × Bool) → Res) → Res) (γ10 : List AV → List Bx → List Rw → ((Bool) → Res) → Res) (γ13 : List AV → List Bx → List Rw → ((Bool) → Res) → Res) : CFun := updC (updC (updC (updC (bindC Γ) 19 brokerlaw17_numbered_out γ19) 11 slow_Push_out γ11) 10 brokerlaw17_awake_out γ10) 13 brokerref17_Same_out γ13
def R6_9 (C : CFun) (Λ2 J : Lam) (a0 : Int) (a1 : (List (List D))) (a2 : Int) (a3 : Int) (a4 : (List (List D))) (a5 : (List (List D))) (a6 : (List (List D))) : Res := lab SE C Λ2 J 6 0 [1, 1, 1, 0, 1, 0, 0, 1, 0, 0, 1, 1, 0] (stoOf [(1, .d (.int .i64 a0)), (2, .d (.sl [.int .i64] a1)), (7, .row 3007), (8, .row 3008), (9, .row 3009), (10, .d (.int .i64 a2)), (11, .d (.int .i64 a3))] [] [] [] [(3007, ⟨api_Message.ks, 25, 112, a4⟩), (3008, ⟨api_Message.ks, 25, 112, a5⟩), (3009, ⟨api_Message.ks, 25, 112, a6⟩)])
def R6_34 (C : CFun) (Λ2 J : Lam) (a0 : (List (List D))) (a1 : Int) (a2 : (List (List D))) (a3 : (List (List D))) : Res := lab SE C Λ2 J 6 0 [1, 1, 1, 1, 1, 1, 1, 1, 1, 1, 1, 0, 0] (stoOf [(2, .d (.sl [.int .i64] a0)), (7, .row 3007), (8, .row 3008), (18, .d (.int .i64 a1))] [] [] [] [(3007, ⟨api_Message.ks, 25, 112, a2⟩), (3008, ⟨api_Message.ks, 25, 112, a3⟩)])
def R6_31 (C : CFun) (Λ2 J : Lam) (a0 : Int) (a1 : (List (List D))) (a2 : (List (List D))) (a3 : (List (List D))) : Res := lab SE C Λ2 J 6 0 [1, 1, 1, 1, 1, 1, 1, 1, 1, 0] (stoOf [(1, .d (.int .i64 a0)), (2, .d (.sl [.int .i64] a1)), (7, .row 3007), (8, .row 3008)] [] [] [] [(3007, ⟨api_Message.ks, 25, 112, a2⟩), (3008, ⟨api_Message.ks, 25, 112, a3⟩)])
def R6_24 (C : CFun) (Λ2 J : Lam) (a0 : Int) (a1 : (List (List D))) (a2 : Int) (a3 : (List (List D))) (a4 : (List (List D))) (a5 : (List (List D))) (a6 : (List (List D))) : Res := lab SE C Λ2 J 6 0 [1, 1, 1, 1, 1, 1, 1, 0, 1, 0] (stoOf [(1, .d (.int .i64 a0)), (2, .d (.sl [.int .i64] a1)), (7, .row 3007), (8, .row 3008), (9, .row 3009), (15, .row 3015), (17, .d (.int .i64 a2))] [] [] [] [(3007, ⟨api_Message.ks, 25, 112, a3⟩), (3008, ⟨api_Message.ks, 25, 112, a4⟩), (3009, ⟨api_Message.ks, 25, 112, a5⟩), (3015, ⟨[.bool], 4, 1, a6⟩)])
def R6_18 (C : CFun) (Λ2 J : Lam) (a0 : Int) (a1 : (List (List D))) (a2 : Int) (a3 : (List (List D))) (a4 : (List (List D))) (a5 : (List (List D))) (a6 : (List (List D))) : Res := lab SE C Λ2 J 6 0 [1, 1, 1, 1, 1, 1, 0, 1, 0] (stoOf [(1, .d (.int .i64 a0)), (2, .d (.sl [.int .i64] a1)), (7, .row 3007), (8, .row 3008), (9, .row 3009), (15, .row 3015), (16, .d (.int .i64 a2))] [] [] [] [(3007, ⟨api_Message.ks, 25, 112, a3⟩), (3008, ⟨api_Message.ks, 25, 112, a4⟩), (3009, ⟨api_Message.ks, 25, 112, a5⟩), (3015, ⟨[.bool], 4, 1, a6⟩)])
def R6_16 (C : CFun) (Λ2 J : Lam) (a0 : Int) (a1 : (List (List D))) (a2 : (List (List D))) (a3 : (List (List D))) (a4 : (List (List D))) : Res := lab SE C Λ2 J 6 0 [1, 1, 1, 1, 1, 0] (stoOf [(1, .d (.int .i64 a0)), (2, .d (.sl [.int .i64] a1)), (7, .row 3007), (8, .row 3008), (9, .row 3009)] [] [] [] [(3007, ⟨api_Message.ks, 25, 112, a2⟩), (3008, ⟨api_Message.ks, 25, 112, a3⟩), (3009, ⟨api_Message.ks, 25, 112, a4⟩)])
def R6_4 (C : CFun) (Λ2 J : Lam) (a0 : Int) (a1 : (List (List D))) (a2 : Int) (a3 : (List (List D))) (a4 : (List (List D))) (a5 : (List (List D))) : Res := lab SE C Λ2 J 6 0 [1, 1, 1, 0, 1, 0] (stoOf [(1, .d (.int .i64 a0)), (2, .d (.sl [.int .i64] a1)), (7, .row 3007), (8, .row 3008), (9, .row 3009), (10, .d (.int .i64 a2))] [] [] [] [(3007, ⟨api_Message.ks, 25, 112, a3⟩), (3008, ⟨api_Message.ks, 25, 112, a4⟩), (3009, ⟨api_Message.ks, 25, 112, a5⟩)])
theorem T6 (Γ : Fun) (γ19 : List AV → List Bx → List Rw → (((List api_Message)) → Res) → Res) (γ11 : List AV → List Bx → List Rw → (((List api_Message) × (List api_Message) × Bool) → Res) → Res) (γ10 : List AV → List Bx → List Rw → ((Bool) → Res) → Res) (γ13 : List AV → List Bx → List Rw → ((Bool) → Res) → Res) (Λ2 J : Lam) (p0 : Int) (p1 : Int) (p2 : (List Int)) : bodyC SE (C6 Γ γ19 γ11 γ10 γ13) Λ2 J 6 [.d (.int .u8 p0), .d (.int .i64 p1), .d (.sl [.int .i64] (List.map (encI .i64) p2))] [] [] =
  γ19 [.d (.int .i64 (Int.tmod (IntKind.wrap .i64 p0) 101))] [] [] fun r0 =>
  R6_4 (C6 Γ γ19 γ11 γ10 γ13) Λ2 J p1 (List.map (encI .i64) p2) 0 (List.map api_Message.enc r0) (List.map api_Message.enc []) (List.map api_Message.enc []) := by kernel_rfl
theorem T6_9 (Γ : Fun) (γ19 : List AV → List Bx → List Rw → (((List api_Message)) → Res) → Res) (γ11 : List AV → List Bx → List Rw → (((List api_Message) × (List api_Message) × Bool) → Res) → Res) (γ10 : List AV → List Bx → List Rw → ((Bool) → Res) → Res) (γ13 : List AV → List Bx → List Rw → ((Bool) → Res) → Res) (Λ2 J : Lam) (x1 : Int) (x2 : (List Int)) (x10 : Int) (x11 : Int) (w3007 : (List api_Message)) (w3008 : (List api_Message)) (w3009 : (List api_Message)) : labU SE (C6 Γ γ19 γ11 γ10 γ13) Λ2 J 6 0 [1, 1, 1, 0, 1, 0, 0, 1, 0, 0, 1, 1, 0] (stoOf [(1, .d (.int .i64 x1)), (2, .d (.sl [.int .i64] (List.map (encI .i64) x2))), (7, .row 3007), (8, .row 3008), (9, .row 3009), (10, .d (.int .i64 x10)), (11, .d (.int .i64 x11))] [] [] [] [(3007, ⟨api_Message.ks, 25, 112, (List.map api_Message.enc w3007)⟩), (3008, ⟨api_Message.ks, 25, 112, (List.map api_Message.enc w3008)⟩), (3009, ⟨api_Message.ks, 25, 112, (List.map api_Message.enc w3009)⟩)]) =
  cond (decide (0 ≤ x10) && decide (x10 < (List.length (List.map api_Message.enc w3007) : Int))) (
   γ11 [.d (.sl api_Message.ks (List.map api_Message.enc w3008)), .agg [.d (.str (dStr (cellAt (elemAt (List.map api_Message.enc w3007) (Int.toNat x10)) 0))), .d (.str (dStr (cellAt (elemAt (List.map api_Message.enc w3007) (Int.toNat x10)) 1))), .d (.int .i64 (dInt (cellAt (elemAt (List.map api_Message.enc w3007) (Int.toNat x10)) 2))), .d (.bool (dBool (cellAt (elemAt (List.map api_Message.enc w3007) (Int.toNat x10)) 3))), .d (.int .i64 (dInt (cellAt (elemAt (List.map api_Message.enc w3007) (Int.toNat x10)) 4))), .d (.int .i64 (dInt (cellAt (elemAt (List.map api_Message.enc w3007) (Int.toNat x10)) 5))), .d (.str (dStr (cellAt (elemAt (List.map api_Message.enc w3007) (Int.toNat x10)) 6))), .d (.int .i64 (dInt (cellAt (elemAt (List.map api_Message.enc w3007) (Int.toNat x10)) 7))), .d (.sl api_Prop.ks (dSl (cellAt (elemAt (List.map api_Message.enc w3007) (Int.toNat x10)) 8)))], .d (.int .i64 x1), .d (.int .i64 x11)] [] [] fun r1 =>
   cond (decide ((List.length (List.map api_Message.enc r1.2.1) : Int) > 1)) (
    (some (.ret [.d (.bool false)] [] []))) (
   cond (decide ((List.length (List.map api_Message.enc w3009) + List.length (List.map api_Message.enc r1.2.1)) * 112 ≤ 140737488355328)) (
    R6_4 (C6 Γ γ19 γ11 γ10 γ13) Λ2 J x1 (List.map (encI .i64) x2) (IntKind.wrap .i64 (x10 + 1)) (List.map api_Message.enc w3007) (List.map api_Message.enc r1.1) (((List.map api_Message.enc w3009) ++ (List.map api_Message.enc r1.2.1)))) none)) none := by kernel_rfl
theorem T6_34 (Γ : Fun) (γ19 : List AV → List Bx → List Rw → (((List api_Message)) → Res) → Res) (γ11 : List AV → List Bx → List Rw → (((List api_Message) × (List api_Message) × Bool) → Res) → Res) (γ10 : List AV → List Bx → List Rw → ((Bool) → Res) → Res) (γ13 : List AV → List Bx → List Rw → ((Bool) → Res) → Res) (Λ2 J : Lam) (x2 : (List Int)) (x18 : Int) (w3007 : (List api_Message)) (w3008 : (List api_Message)) : labU SE (C6 Γ γ19 γ11 γ10 γ13) Λ2 J 6 0 [1, 1, 1, 1, 1, 1, 1, 1, 1, 1, 1, 0, 0] (stoOf [(2, .d (.sl [.int .i64] (List.map (encI .i64) x2))), (7, .row 3007), (8, .row 3008), (18, .d (.int .i64 x18))] [] [] [] [(3007, ⟨api_Message.ks, 25, 112, (List.map api_Message.enc w3007)⟩), (3008, ⟨api_Message.ks, 25, 112, (List.map api_Message.enc w3008)⟩)]) =
  cond (decide (0 ≤ 0) && decide (0 < (List.length (List.map (encI .i64) x2) : Int))) (
   cond ((dInt (cellAt (elemAt (List.map (encI .i64) x2) (Int.toNat 0)) 0)) == 1) (
    γ10 [] [] [] fun r4 =>
    cond r4 (
     cond (decide (0 ≤ (IntKind.wrap .i64 ((List.length (List.map api_Message.enc w3007) : Int) - x18))) && decide ((IntKind.wrap .i64 ((List.length (List.map api_Message.enc w3007) : Int) - x18)) ≤ ((List.length (List.map api_Message.enc w3007)) : Int))) (
      γ13 [.d (.sl api_Message.ks (List.map api_Message.enc w3008)), .d (.sl api_Message.ks (List.take ((List.length (List.map api_Message.enc w3007)) - (Int.toNat (IntKind.wrap .i64 ((List.length (List.map api_Message.enc w3007) : Int) - x18)))) (List.drop (Int.toNat (IntKind.wrap .i64 ((List.length (List.map api_Message.enc w3007) : Int) - x18))) (List.map api_Message.enc w3007))))] [] [] fun r5 =>
      (some (.ret [.d (.bool r5)] [] []))) none) (
    (some (.ret [.d (.bool false)] [] [])))) (
   γ10 [] [] [] fun r6 =>
   cond r6 (
    cond (decide (0 ≤ x18) && decide (x18 ≤ ((List.length (List.map api_Message.enc w3007)) : Int))) (
     γ13 [.d (.sl api_Message.ks (List.map api_Message.enc w3008)), .d (.sl api_Message.ks (List.take ((Int.toNat x18) - 0) (List.drop 0 (List.map api_Message.enc w3007))))] [] [] fun r7 =>
     (some (.ret [.d (.bool r7)] [] []))) none) (
   (some (.ret [.d (.bool false)] [] []))))) none := by kernel_rfl
theorem T6_31 (Γ : Fun) (γ19 : List AV → List Bx → List Rw → (((List api_Message)) → Res) → Res) (γ11 : List AV → List Bx → List Rw → (((List api_Message) × (List api_Message) × Bool) → Res) → Res) (γ10 : List AV → List Bx → List Rw → ((Bool) → Res) → Res) (γ13 : List AV → List Bx → List Rw → ((Bool) → Res) → Res) (Λ2 J : Lam) (x1 : Int) (x2 : (List Int)) (w3007 : (List api_Message)) (w3008 : (List api_Message)) : labU SE (C6 Γ γ19 γ11 γ10 γ13) Λ2 J 6 0 [1, 1, 1, 1, 1, 1, 1, 1, 1, 0] (stoOf [(1, .d (.int .i64 x1)), (2, .d (.sl [.int .i64] (List.map (encI .i64) x2))), (7, .row 3007), (8, .row 3008)] [] [] [] [(3007, ⟨api_Message.ks, 25, 112, (List.map api_Message.enc w3007)⟩), (3008, ⟨api_Message.ks, 25, 112, (List.map api_Message.enc w3008)⟩)]) =
  cond (decide (x1 > (List.length (List.map api_Message.enc w3007) : Int))) (
   R6_34 (C6 Γ γ19 γ11 γ10 γ13) Λ2 J (List.map (encI .i64) x2) (List.length (List.map api_Message.enc w3007) : Int) (List.map api_Message.enc w3007) (List.map api_Message.enc w3008)) (
  R6_34 (C6 Γ γ19 γ11 γ10 γ13) Λ2 J (List.map (encI .i64) x2) x1 (List.map api_Message.enc w3007) (List.map api_Message.enc w3008)) := by kernel_rfl
theorem T6_24 (Γ : Fun) (γ19 : List AV → List Bx → List Rw → (((List api_Message)) → Res) → Res) (γ11 : List AV → List Bx → List Rw → (((List api_Message) × (List api_Message) × Bool) → Res) → Res) (γ10 : List AV → List Bx → List Rw → ((Bool) → Res) → Res) (γ13 : List AV → List Bx → List Rw → ((Bool) → Res) → Res) (Λ2 J : Lam) (x1 : Int) (x2 : (List Int)) (x17 : Int) (w3007 : (List api_Message)) (w3008 : (List api_Message)) (w3009 : (List api_Message)) (w3015 : (List Bool)) : labU SE (C6 Γ γ19 γ11 γ10 γ13) Λ2 J 6 0 [1, 1, 1, 1, 1, 1, 1, 0, 1, 0] (stoOf [(1, .d (.int .i64 x1)), (2, .d (.sl [.int .i64] (List.map (encI .i64) x2))), (7, .row 3007), (8, .row 3008), (9, .row 3009), (15, .row 3015), (17, .d (.int .i64 x17))] [] [] [] [(3007, ⟨api_Message.ks, 25, 112, (List.map api_Message.enc w3007)⟩), (3008, ⟨api_Message.ks, 25, 112, (List.map api_Message.enc w3008)⟩), (3009, ⟨api_Message.ks, 25, 112, (List.map api_Message.enc w3009)⟩), (3015, ⟨[.bool], 4, 1, (List.map encB w3015)⟩)]) =
  cond (decide (x17 < (List.length (List.map api_Message.enc w3009) : Int))) (
   cond (decide (0 ≤ x17) && decide (x17 < (List.length (List.map api_Message.enc w3009) : Int))) (
    cond (decide ((dInt (cellAt (elemAt (List.map api_Message.enc w3009) (Int.toNat x17)) 7)) < 1)) (
     (some (.ret [.d (.bool false)] [] []))) (
    cond (decide (0 ≤ x17) && decide (x17 < (List.length (List.map api_Message.enc w3009) : Int))) (
     cond (decide ((dInt (cellAt (elemAt (List.map api_Message.enc w3009) (Int.toNat x17)) 7)) > (List.length (List.map api_Message.enc w3007) : Int))) (
      (some (.ret [.d (.bool false)] [] []))) (
     cond (decide (0 ≤ x17) && decide (x17 < (List.length (List.map api_Message.enc w3009) : Int))) (
      cond (decide (0 ≤ (dInt (cellAt (elemAt (List.map api_Message.enc w3009) (Int.toNat x17)) 7))) && decide ((dInt (cellAt (elemAt (List.map api_Message.enc w3009) (Int.toNat x17)) 7)) < (List.length (List.map encB w3015) : Int))) (
       cond (dBool (cellAt (elemAt (List.map encB w3015) (Int.toNat (dInt (cellAt (elemAt (List.map api_Message.enc w3009) (Int.toNat x17)) 7)))) 0)) (
        (some (.ret [.d (.bool false)] [] []))) (
       cond (decide (0 ≤ x17) && decide (x17 < (List.length (List.map api_Message.enc w3009) : Int))) (
        cond (decide (0 ≤ (dInt (cellAt (elemAt (List.map api_Message.enc w3009) (Int.toNat x17)) 7))) && decide ((dInt (cellAt (elemAt (List.map api_Message.enc w3009) (Int.toNat x17)) 7)) < (List.length (List.map encB w3015) : Int))) (
         R6_24 (C6 Γ γ19 γ11 γ10 γ13) Λ2 J x1 (List.map (encI .i64) x2) (IntKind.wrap .i64 (x17 + 1)) (List.map api_Message.enc w3007) (List.map api_Message.enc w3008) (List.map api_Message.enc w3009) ((setE (List.map encB w3015) (Int.toNat (dInt (cellAt (elemAt (List.map api_Message.enc w3009) (Int.toNat x17)) 7))) 0 [D.bool true]))) none) none)) none) none)) none)) none) (
  cond ((List.length (List.map (encI .i64) x2) : Int) != 1) (
   γ10 [] [] [] fun r2 =>
   (some (.ret [.d (.bool r2)] [] []))) (
  cond (decide (x1 < 1)) (
   γ10 [] [] [] fun r3 =>
   (some (.ret [.d (.bool r3)] [] []))) (
  R6_31 (C6 Γ γ19 γ11 γ10 γ13) Λ2 J x1 (List.map (encI .i64) x2) (List.map api_Message.enc w3007) (List.map api_Message.enc w3008)))) := by kernel_rfl
theorem T6_18 (Γ : Fun) (γ19 : List AV → List Bx → List Rw → (((List api_Message)) → Res) → Res) (γ11 : List AV → List Bx → List Rw → (((List api_Message) × (List api_Message) × Bool) → Res) → Res) (γ10 : List AV → List Bx → List Rw → ((Bool) → Res) → Res) (γ13 : List AV → List Bx → List Rw → ((Bool) → Res) → Res) (Λ2 J : Lam) (x1 : Int) (x2 : (List Int)) (x16 : Int) (w3007 : (List api_Message)) (w3008 : (List api_Message)) (w3009 : (List api_Message)) (w3015 : (List Bool)) : labU SE (C6 Γ γ19 γ11 γ10 γ13) Λ2 J 6 0 [1, 1, 1, 1, 1, 1, 0, 1, 0] (stoOf [(1, .d (.int .i64 x1)), (2, .d (.sl [.int .i64] (List.map (encI .i64) x2))), (7, .row 3007), (8, .row 3008), (9, .row 3009), (15, .row 3015), (16, .d (.int .i64 x16))] [] [] [] [(3007, ⟨api_Message.ks, 25, 112, (List.map api_Message.enc w3007)⟩), (3008, ⟨api_Message.ks, 25, 112, (List.map api_Message.enc w3008)⟩), (3009, ⟨api_Message.ks, 25, 112, (List.map api_Message.enc w3009)⟩), (3015, ⟨[.bool], 4, 1, (List.map encB w3015)⟩)]) =
  cond (decide (x16 < (List.length (List.map api_Message.enc w3008) : Int))) (
   cond (decide (x16 > 0)) (
    cond (decide (0 ≤ x16) && decide (x16 < (List.length (List.map api_Message.enc w3008) : Int))) (
     cond (decide (0 ≤ (IntKind.wrap .i64 (x16 - 1))) && decide ((IntKind.wrap .i64 (x16 - 1)) < (List.length (List.map api_Message.enc w3008) : Int))) (
      cond (decide ((dInt (cellAt (elemAt (List.map api_Message.enc w3008) (Int.toNat x16)) 7)) ≤ (dInt (cellAt (elemAt (List.map api_Message.enc w3008) (Int.toNat (IntKind.wrap .i64 (x16 - 1)))) 7)))) (
       (some (.ret [.d (.bool false)] [] []))) (
      cond (decide (0 ≤ x16) && decide (x16 < (List.length (List.map api_Message.enc w3008) : Int))) (
       cond (decide ((dInt (cellAt (elemAt (List.map api_Message.enc w3008) (Int.toNat x16)) 7)) < 1)) (
        (some (.ret [.d (.bool false)] [] []))) (
       cond (decide (0 ≤ x16) && decide (x16 < (List.length (List.map api_Message.enc w3008) : Int))) (
        cond (decide ((dInt (cellAt (elemAt (List.map api_Message.enc w3008) (Int.toNat x16)) 7)) > (List.length (List.map api_Message.enc w3007) : Int))) (
         (some (.ret [.d (.bool false)] [] []))) (
        cond (decide (0 ≤ x16) && decide (x16 < (List.length (List.map api_Message.enc w3008) : Int))) (
         cond (decide (0 ≤ (dInt (cellAt (elemAt (List.map api_Message.enc w3008) (Int.toNat x16)) 7))) && decide ((dInt (cellAt (elemAt (List.map api_Message.enc w3008) (Int.toNat x16)) 7)) < (List.length (List.map encB w3015) : Int))) (
          R6_18 (C6 Γ γ19 γ11 γ10 γ13) Λ2 J x1 (List.map (encI .i64) x2) (IntKind.wrap .i64 (x16 + 1)) (List.map api_Message.enc w3007) (List.map api_Message.enc w3008) (List.map api_Message.enc w3009) ((setE (List.map encB w3015) (Int.toNat (dInt (cellAt (elemAt (List.map api_Message.enc w3008) (Int.toNat x16)) 7))) 0 [D.bool true]))) none) none)) none)) none)) none) none) (
   cond (decide (0 ≤ x16) && decide (x16 < (List.length (List.map api_Message.enc w3008) : Int))) (
    cond (decide ((dInt (cellAt (elemAt (List.map api_Message.enc w3008) (Int.toNat x16)) 7)) < 1)) (
     (some (.ret [.d (.bool false)] [] []))) (
    cond (decide (0 ≤ x16) && decide (x16 < (List.length (List.map api_Message.enc w3008) : Int))) (
     cond (decide ((dInt (cellAt (elemAt (List.map api_Message.enc w3008) (Int.toNat x16)) 7)) > (List.length (List.map api_Message.enc w3007) : Int))) (
      (some (.ret [.d (.bool false)] [] []))) (
     cond (decide (0 ≤ x16) && decide (x16 < (List.length (List.map api_Message.enc w3008) : Int))) (
      cond (decide (0 ≤ (dInt (cellAt (elemAt (List.map api_Message.enc w3008) (Int.toNat x16)) 7))) && decide ((dInt (cellAt (elemAt (List.map api_Message.enc w3008) (Int.toNat x16)) 7)) < (List.length (List.map encB w3015) : Int))) (
       R6_18 (C6 Γ γ19 γ11 γ10 γ13) Λ2 J x1 (List.map (encI .i64) x2) (IntKind.wrap .i64 (x16 + 1)) (List.map api_Message.enc w3007) (List.map api_Message.enc w3008) (List.map api_Message.enc w3009) ((setE (List.map encB w3015) (Int.toNat (dInt (cellAt (elemAt (List.map api_Message.enc w3008) (Int.toNat x16)) 7))) 0 [D.bool true]))) none) none)) none)) none)) (
  R6_24 (C6 Γ γ19 γ11 γ10 γ13) Λ2 J x1 (List.map (encI .i64) x2) 0 (List.map api_Message.enc w3007) (List.map api_Message.enc w3008) (List.map api_Message.enc w3009) (List.map encB w3015)) := by kernel_rfl
theorem T6_16 (Γ : Fun) (γ19 : List AV → List Bx → List Rw → (((List api_Message)) → Res) → Res) (γ11 : List AV → List Bx → List Rw → (((List api_Message) × (List api_Message) × Bool) → Res) → Res) (γ10 : List AV → List Bx → List Rw → ((Bool) → Res) → Res) (γ13 : List AV → List Bx → List Rw → ((Bool) → Res) → Res) (Λ2 J : Lam) (x1 : Int) (x2 : (List Int)) (w3007 : (List api_Message)) (w3008 : (List api_Message)) (w3009 : (List api_Message)) : labU SE (C6 Γ γ19 γ11 γ10 γ13) Λ2 J 6 0 [1, 1, 1, 1, 1, 0] (stoOf [(1, .d (.int .i64 x1)), (2, .d (.sl [.int .i64] (List.map (encI .i64) x2))), (7, .row 3007), (8, .row 3008), (9, .row 3009)] [] [] [] [(3007, ⟨api_Message.ks, 25, 112, (List.map api_Message.enc w3007)⟩), (3008, ⟨api_Message.ks, 25, 112, (List.map api_Message.enc w3008)⟩), (3009, ⟨api_Message.ks, 25, 112, (List.map api_Message.enc w3009)⟩)]) =
  cond (decide (0 ≤ (IntKind.wrap .i64 ((List.length (List.map api_Message.enc w3007) : Int) + 1))) && decide ((IntKind.wrap .i64 ((List.length (List.map api_Message.enc w3007) : Int) + 1)) ≤ (IntKind.wrap .i64 ((List.length (List.map api_Message.enc w3007) : Int) + 1))) && decide ((IntKind.wrap .i64 ((List.length (List.map api_Message.enc w3007) : Int) + 1)) * 1 ≤ 281474976710656)) (
   R6_18 (C6 Γ γ19 γ11 γ10 γ13) Λ2 J x1 (List.map (encI .i64) x2) 0 (List.map api_Message.enc w3007) (List.map api_Message.enc w3008) (List.map api_Message.enc w3009) (List.replicate (Int.toNat (IntKind.wrap .i64 ((List.length (List.map api_Message.enc w3007) : Int) + 1))) [D.bool false])) none := by kernel_rfl
theorem T6_4 (Γ : Fun) (γ19 : List AV → List Bx → List Rw → (((List api_Message)) → Res) → Res) (γ11 : List AV → List Bx → List Rw → (((List api_Message) × (List api_Message) × Bool) → Res) → Res) (γ10 : List AV → List Bx → List Rw → ((Bool) → Res) → Res) (γ13 : List AV → List Bx → List Rw → ((Bool) → Res) → Res) (Λ2 J : Lam) (x1 : Int) (x2 : (List Int)) (x10 : Int) (w3007 : (List api_Message)) (w3008 : (List api_Message)) (w3009 : (List api_Message)) : labU SE (C6 Γ γ19 γ11 γ10 γ13) Λ2 J 6 0 [1, 1, 1, 0, 1, 0] (stoOf [(1, .d (.int .i64 x1)), (2, .d (.sl [.int .i64] (List.map (encI .i64) x2))), (7, .row 3007), (8, .row 3008), (9, .row 3009), (10, .d (.int .i64 x10))] [] [] [] [(3007, ⟨api_Message.ks, 25, 112, (List.map api_Message.enc w3007)⟩), (3008, ⟨api_Message.ks, 25, 112, (List.map api_Message.enc w3008)⟩), (3009, ⟨api_Message.ks, 25, 112, (List.map api_Message.enc w3009)⟩)]) =
  cond (decide (x10 < (List.length (List.map api_Message.enc w3007) : Int))) (
   cond (decide ((List.length (List.map (encI .i64) x2) : Int) > 0)) (
    cond ((List.length (List.map (encI .i64) x2) : Int) != 0) (
     cond (decide (0 ≤ (Int.tmod x10 (List.length (List.map (encI .i64) x2) : Int))) && decide ((Int.tmod x10 (List.length (List.map (encI .i64) x2) : Int)) < (List.length (List.map (encI .i64) x2) : Int))) (
      R6_9 (C6 Γ γ19 γ11 γ10 γ13) Λ2 J x1 (List.map (encI .i64) x2) x10 ((dInt (cellAt (elemAt (List.map (encI .i64) x2) (Int.toNat (Int.tmod x10 (List.length (List.map (encI .i64) x2) : Int)))) 0))) (List.map api_Message.enc w3007) (List.map api_Message.enc w3008) (List.map api_Message.enc w3009)) none) none) (
   R6_9 (C6 Γ γ19 γ11 γ10 γ13) Λ2 J x1 (List.map (encI .i64) x2) x10 2 (List.map api_Message.enc w3007) (List.map api_Message.enc w3008) (List.map api_Message.enc w3009))) (
  cond ((IntKind.wrap .i64 ((List.length (List.map api_Message.enc w3008) : Int) + (List.length (List.map api_Message.enc w3009) : Int))) != (List.length (List.map api_Message.enc w3007) : Int)) (
   (some (.ret [.d (.bool false)] [] []))) (
  cond (decide ((List.length (List.map api_Message.enc w3008) : Int) > 0)) (
   cond (decide ((List.length (List.map api_Message.enc w3008) : Int) > x1)) (
    (some (.ret [.d (.bool false)] [] []))) (
   R6_16 (C6 Γ γ19 γ11 γ10 γ13) Λ2 J x1 (List.map (encI .i64) x2) (List.map api_Message.enc w3007) (List.map api_Message.enc w3008) (List.map api_Message.enc w3009))) (
  R6_16 (C6 Γ γ19 γ11 γ10 γ13) Λ2 J x1 (List.map (encI .i64) x2) (List.map api_Message.enc w3007) (List.map api_Message.enc w3008) (List.map api_Message.enc w3009)))) := by kernel_rfl
theorem Cr6 : C6 (callG SE good) (callT SE good 19 brokerlaw17_numbered_out) (callT SE good 11 slow_Push_out) (callT SE good 10 brokerlaw17_awake_out) (callT SE good 13 brokerref17_Same_out) = bindC (callG SE good) := by unfold C6; rw [updC_real (fun _ h => h), updC_real (fun _ h => h), updC_real (fun _ h => h), updC_real (fun _ h => h)]
noncomputable abbrev Q6_9 (a0 : Int) (a1 : (List (List D))) (a2 : Int) (a3 : Int) (a4 : (List (List D))) (a5 : (List (List D))) (a6 : (List (List D))) : Res := R6_9 (C6 (callG SE good) (callT SE good 19 brokerlaw17_numbered_out) (callT SE good 11 slow_Push_out) (callT SE good 10 brokerlaw17_awake_out) (callT SE good 13 brokerref17_Same_out)) (lam2 SE (callG SE good) (SE.hl 6) (SE.hr 6)) (J0 SE (C6 (callG SE good) (callT SE good 19 brokerlaw17_numbered_out) (callT SE good 11 slow_Push_out) (callT SE good 10 brokerlaw17_awake_out) (callT SE good 13 brokerref17_Same_out))) a0 a1 a2 a3 a4 a5 a6
noncomputable abbrev Q6_34 (a0 : (List (List D))) (a1 : Int) (a2 : (List (List D))) (a3 : (List (List D))) : Res := R6_34 (C6 (callG SE good) (callT SE good 19 brokerlaw17_numbered_out) (callT SE good 11 slow_Push_out) (callT SE good 10 brokerlaw17_awake_out) (callT SE good 13 brokerref17_Same_out)) (lam2 SE (callG SE good) (SE.hl 6) (SE.hr 6)) (J0 SE (C6 (callG SE good) (callT SE good 19 brokerlaw17_numbered_out) (callT SE good 11 slow_Push_out) (callT SE good 10 brokerlaw17_awake_out) (callT SE good 13 brokerref17_Same_out))) a0 a1 a2 a3
noncomputable abbrev Q6_31 (a0 : Int) (a1 : (List (List D))) (a2 : (List (List D))) (a3 : (List (List D))) : Res := R6_31 (C6 (callG SE good) (callT SE good 19 brokerlaw17_numbered_out) (callT SE good 11 slow_Push_out) (callT SE good 10 brokerlaw17_awake_out) (callT SE good 13 brokerref17_Same_out)) (lam2 SE (callG SE good) (SE.hl 6) (SE.hr 6)) (J0 SE (C6 (callG SE good) (callT SE good 19 brokerlaw17_numbered_out) (callT SE good 11 slow_Push_out) (callT SE good 10 brokerlaw17_awake_out) (callT SE good 13 brokerref17_Same_out))) a0 a1 a2 a3
noncomputable abbrev Q6_24 (a0 : Int) (a1 : (List (List D))) (a2 : Int) (a3 : (List (List D))) (a4 : (List (List D))) (a5 : (List (List D))) (a6 : (List (List D))) : Res := R6_24 (C6 (callG SE good) (callT SE good 19 brokerlaw17_numbered_out) (callT SE good 11 slow_Push_out) (callT SE good 10 brokerlaw17_awake_out) (callT SE good 13 brokerref17_Same_out)) (lam2 SE (callG SE good) (SE.hl 6) (SE.hr 6)) (J0 SE (C6 (callG SE good) (callT SE good 19 brokerlaw17_numbered_out) (callT SE good 11 slow_Push_out) (callT SE good 10 brokerlaw17_awake_out) (callT SE good 13 brokerref17_Same_out))) a0 a1 a2 a3 a4 a5 a6
noncomputable abbrev Q6_18 (a0 : Int) (a1 : (List (List D))) (a2 : Int) (a3 : (List (List D))) (a4 : (List (List D))) (a5 : (List (List D))) (a6 : (List (List D))) : Res := R6_18 (C6 (callG SE good) (callT SE good 19 brokerlaw17_numbered_out) (callT SE good 11 slow_Push_out) (callT SE good 10 brokerlaw17_awake_out) (callT SE good 13 brokerref17_Same_out)) (lam2 SE (callG SE good) (SE.hl 6) (SE.hr 6)) (J0 SE (C6 (callG SE good) (callT SE good 19 brokerlaw17_numbered_out) (callT SE good 11 slow_Push_out) (callT SE good 10 brokerlaw17_awake_out) (callT SE good 13 brokerref17_Same_out))) a0 a1 a2 a3 a4 a5 a6
noncomputable abbrev Q6_16 (a0 : Int) (a1 : (List (List D))) (a2 : (List (List D))) (a3 : (List (List D))) (a4 : (List (List D))) : Res := R6_16 (C6 (callG SE good) (callT SE good 19 brokerlaw17_numbered_out) (callT SE good 11 slow_Push_out) (callT SE good 10 brokerlaw17_awake_out) (callT SE good 13 brokerref17_Same_out)) (lam2 SE (callG SE good) (SE.hl 6) (SE.hr 6)) (J0 SE (C6 (callG SE good) (callT SE good 19 brokerlaw17_numbered_out) (callT SE good 11 slow_Push_out) (callT SE good 10 brokerlaw17_awake_out) (callT SE good 13 brokerref17_Same_out))) a0 a1 a2 a3 a4
noncomputable abbrev Q6_4 (a0 : Int) (a1 : (List (List D))) (a2 : Int) (a3 : (List (List D))) (a4 : (List (List D))) (a5 : (List (List D))) : Res := R6_4 (C6 (callG SE good) (callT SE good 19 brokerlaw17_numbered_out) (callT SE good 11 slow_Push_out) (callT SE good 10 brokerlaw17_awake_out) (callT SE good 13 brokerref17_Same_out)) (lam2 SE (callG SE good) (SE.hl 6) (SE.hr 6)) (J0 SE (C6 (callG SE good) (callT SE good 19 brokerlaw17_numbered_out) (callT SE good 11 slow_Push_out) (callT SE good 10 brokerlaw17_awake_out) (callT SE good 13 brokerref17_Same_out))) a0 a1 a2 a3 a4 a5
theorem brokerlaw17_SlowOrder_j9_ok (k4 : Int → (List Int) → Int → (List api_Message) → (List api_Message) → (List api_Message) → Option (Bool)) (hk4 : ∀ (x1 : Int) (x2 : (List Int)) (x10 : Int) (w3007 : (List api_Message)) (w3008 : (List api_Message)) (w3009 : (List api_Message)), Le (Option.map brokerlaw17_SlowOrder_out (k4 x1 x2 x10 w3007 w3008 w3009)) (Q6_4 x1 (List.map (encI .i64) x2) x10 (List.map api_Message.enc w3007) (List.map api_Message.enc w3008) (List.map api_Message.enc w3009))) (x1 : Int) (x2 : (List Int)) (x10 : Int) (x11 : Int) (w3007 : (List api_Message)) (w3008 : (List api_Message)) (w3009 : (List api_Message)) : Le (Option.map brokerlaw17_SlowOrder_out (brokerlaw17_SlowOrder_j9 k4 x1 x2 x10 x11 w3007 w3008 w3009)) (Q6_9 x1 (List.map (encI .i64) x2) x10 x11 (List.map api_Message.enc w3007) (List.map api_Message.enc w3008) (List.map api_Message.enc w3009)) := by
  refine Le.trans ?_ (le_of_eq ((lab_realC Cr6).trans (T6_9 _ _ _ _ _ _ _  x1 x2 x10 x11 w3007 w3008 w3009)).symm)
  unfold brokerlaw17_SlowOrder_j9
  refine le_cond (by simp only [EN]) (fun _ => ?_) (fun _ => le_none)
  refine le_call (good := good) (fun y => ⟨y, rfl⟩) slow_Push_inj (by first | (simp only [EN]; exact slow_Push_ok w3008 (List.getD w3007 (Int.toNat x10) default) x1 x11) | exact slow_Push_ok w3008 (List.getD w3007 (Int.toNat x10) default) x1 x11) (fun r1 _ => ?_)
  refine le_cond (by simp only [EN]) (fun _ => ?_) (fun _ => ?_)
  · skip
    exact le_ret (by first | rfl | (simp only [EN, brokerlaw17_SlowOrder_out]; done) | (simp only [EN, brokerlaw17_SlowOrder_out]; rfl))
  · skip
    refine le_cond (by simp only [EN]) (fun _ => ?_) (fun _ => le_none)
    first | (simp only [EN]; exact hk4 x1 x2 (IntKind.wrap .i64 (x10 + 1)) w3007 r1.1 (w3009 ++ r1.2.1)) | exact hk4 x1 x2 (IntKind.wrap .i64 (x10 + 1)) w3007 r1.1 (w3009 ++ r1.2.1)
theorem brokerlaw17_SlowOrder_j34_ok (x2 : (List Int)) (x18 : Int) (w3007 : (List api_Message)) (w3008 : (List api_Message)) : Le (Option.map brokerlaw17_SlowOrder_out (brokerlaw17_SlowOrder_j34 x2 x18 w3007 w3008)) (Q6_34 (List.map (encI .i64) x2) x18 (List.map api_Message.enc w3007) (List.map api_Message.enc w3008)) := by
  refine Le.trans ?_ (le_of_eq ((lab_realC Cr6).trans (T6_34 _ _ _ _ _ _ _  x2 x18 w3007 w3008)).symm)
  unfold brokerlaw17_SlowOrder_j34
  refine le_cond (by simp only [EN]) (fun _ => ?_) (fun _ => le_none)
  refine le_cond (by simp only [EN]) (fun _ => ?_) (fun _ => ?_)
  · skip
    refine le_call (good := good) (fun y => ⟨y, rfl⟩) brokerlaw17_awake_inj (brokerlaw17_awake_ok) (fun r4 _ => ?_)
    refine le_cond rfl (fun _ => ?_) (fun _ => ?_)
    · skip
      refine le_cond (by simp only [EN]) (fun _ => ?_) (fun _ => le_none)
      refine le_call (good := good) (fun y => ⟨y, rfl⟩) brokerref17_Same_inj (by first | (simp only [EN]; exact brokerref17_Same_ok w3008 ((List.take ((List.length w3007) - (Int.toNat (IntKind.wrap .i64 ((List.length w3007 : Int) - x18)))) (List.drop (Int.toNat (IntKind.wrap .i64 ((List.length w3007 : Int) - x18))) w3007)))) | exact brokerref17_Same_ok w3008 ((List.take ((List.length w3007) - (Int.toNat (IntKind.wrap .i64 ((List.length w3007 : Int) - x18)))) (List.drop (Int.toNat (IntKind.wrap .i64 ((List.length w3007 : Int) - x18))) w3007)))) (fun r5 _ => ?_)
      exact le_ret (by first | rfl | (simp only [EN, brokerlaw17_SlowOrder_out]; done) | (simp only [EN, brokerlaw17_SlowOrder_out]; rfl))
    · skip
      exact le_ret (by first | rfl | (simp only [EN, brokerlaw17_SlowOrder_out]; done) | (simp only [EN, brokerlaw17_SlowOrder_out]; rfl))
  · skip
    refine le_call (good := good) (fun y => ⟨y, rfl⟩) brokerlaw17_awake_inj (brokerlaw17_awake_ok) (fun r6 _ => ?_)
    refine le_cond rfl (fun _ => ?_) (fun _ => ?_)
    · skip
      refine le_cond (by simp only [EN]) (fun _ => ?_) (fun _ => le_none)
      refine le_call (good := good) (fun y => ⟨y, rfl⟩) brokerref17_Same_inj (by first | (simp only [EN]; exact brokerref17_Same_ok w3008 ((List.take ((Int.toNat x18) - 0) (List.drop 0 w3007)))) | exact brokerref17_Same_ok w3008 ((List.take ((Int.toNat x18) - 0) (List.drop 0 w3007)))) (fun r7 _ => ?_)
      exact le_ret (by first | rfl | (simp only [EN, brokerlaw17_SlowOrder_out]; done) | (simp only [EN, brokerlaw17_SlowOrder_out]; rfl))
    · skip
      exact le_ret (by first | rfl | (simp only [EN, brokerlaw17_SlowOrder_out]; done) | (simp only [EN, brokerlaw17_SlowOrder_out]; rfl))
theorem brokerlaw17_SlowOrder_j31_ok (x1 : Int) (x2 : (List Int)) (w3007 : (List api_Message)) (w3008 : (List api_Message)) : Le (Option.map brokerlaw17_SlowOrder_out (brokerlaw17_SlowOrder_j31 x1 x2 w3007 w3008)) (Q6_31 x1 (List.map (encI .i64) x2) (List.map api_Message.enc w3007) (List.map api_Message.enc w3008)) := by
  refine Le.trans ?_ (le_of_eq ((lab_realC Cr6).trans (T6_31 _ _ _ _ _ _ _  x1 x2 w3007 w3008)).symm)
  unfold brokerlaw17_SlowOrder_j31
  refine le_cond (by simp only [EN]) (fun _ => ?_) (fun _ => ?_)
  · skip
    first | (simp only [EN]; exact brokerlaw17_SlowOrder_j34_ok x2 (List.length w3007 : Int) w3007 w3008) | exact brokerlaw17_SlowOrder_j34_ok x2 (List.length w3007 : Int) w3007 w3008
  · skip
    exact brokerlaw17_SlowOrder_j34_ok x2 x1 w3007 w3008
theorem brokerlaw17_SlowOrder_l24_ok : ∀ (fu : Nat) (x1 : Int) (x2 : (List Int)) (x17 : Int) (w3007 : (List api_Message)) (w3008 : (List api_Message)) (w3009 : (List api_Message)) (w3015 : (List Bool)), Le (Option.map brokerlaw17_SlowOrder_out (brokerlaw17_SlowOrder_l24 fu x1 x2 x17 w3007 w3008 w3009 w3015)) (Q6_24 x1 (List.map (encI .i64) x2) x17 (List.map api_Message.enc w3007) (List.map api_Message.enc w3008) (List.map api_Message.enc w3009) (List.map encB w3015)) := by
  intro fu
  induction fu with
  | zero => intros; exact le_none
  | succ fu ih =>
    intro x1 x2 x17 w3007 w3008 w3009 w3015
    refine Le.trans ?_ (le_of_eq ((lab_realC Cr6).trans (T6_24 _ _ _ _ _ _ _  x1 x2 x17 w3007 w3008 w3009 w3015)).symm)
    unfold brokerlaw17_SlowOrder_l24
    refine le_cond (by simp only [EN]) (fun _ => ?_) (fun _ => ?_)
    · skip
      refine le_cond (by simp only [EN]) (fun _ => ?_) (fun _ => le_none)
      refine le_cond (by simp only [EN]) (fun _ => ?_) (fun _ => ?_)
      · skip
        exact le_ret (by first | rfl | (simp only [EN, brokerlaw17_SlowOrder_out]; done) | (simp only [EN, brokerlaw17_SlowOrder_out]; rfl))
      · skip
        refine le_cond (by simp only [EN]) (fun _ => ?_) (fun _ => le_none)
        refine le_cond (by simp only [EN]) (fun _ => ?_) (fun _ => ?_)
        · skip
          exact le_ret (by first | rfl | (simp only [EN, brokerlaw17_SlowOrder_out]; done) | (simp only [EN, brokerlaw17_SlowOrder_out]; rfl))
        · skip
          refine le_cond (by simp only [EN]) (fun _ => ?_) (fun _ => le_none)
          refine le_cond (by simp only [EN]) (fun _ => ?_) (fun _ => le_none)
          refine le_cond (by simp only [EN]) (fun _ => ?_) (fun _ => ?_)
          · skip
            exact le_ret (by first | rfl | (simp only [EN, brokerlaw17_SlowOrder_out]; done) | (simp only [EN, brokerlaw17_SlowOrder_out]; rfl))
          · skip
            refine le_cond (by simp only [EN]) (fun _ => ?_) (fun _ => le_none)
            refine le_cond (by simp only [EN]) (fun _ => ?_) (fun _ => le_none)
            first | (simp only [EN]; exact ih x1 x2 (IntKind.wrap .i64 (x17 + 1)) w3007 w3008 w3009 (List.set w3015 (Int.toNat (List.getD w3009 (Int.toNat x17) default).Seq) true)) | exact ih x1 x2 (IntKind.wrap .i64 (x17 + 1)) w3007 w3008 w3009 (List.set w3015 (Int.toNat (List.getD w3009 (Int.toNat x17) default).Seq) true)
    · skip
      refine le_cond (by simp only [EN]) (fun _ => ?_) (fun _ => ?_)
      · skip
        refine le_call (good := good) (fun y => ⟨y, rfl⟩) brokerlaw17_awake_inj (brokerlaw17_awake_ok) (fun r2 _ => ?_)
        exact le_ret (by first | rfl | (simp only [EN, brokerlaw17_SlowOrder_out]; done) | (simp only [EN, brokerlaw17_SlowOrder_out]; rfl))
      · skip
        refine le_cond rfl (fun _ => ?_) (fun _ => ?_)
        · skip
          refine le_call (good := good) (fun y => ⟨y, rfl⟩) brokerlaw17_awake_inj (brokerlaw17_awake_ok) (fun r3 _ => ?_)
          exact le_ret (by first | rfl | (simp only [EN, brokerlaw17_SlowOrder_out]; done) | (simp only [EN, brokerlaw17_SlowOrder_out]; rfl))
        · skip
          exact brokerlaw17_SlowOrder_j31_ok x1 x2 w3007 w3008
theorem brokerlaw17_SlowOrder_l18_ok : ∀ (fu : Nat) (x1 : Int) (x2 : (List Int)) (x16 : Int) (w3007 : (List api_Message)) (w3008 : (List api_Message)) (w3009 : (List api_Message)) (w3015 : (List Bool)), Le (Option.map brokerlaw17_SlowOrder_out (brokerlaw17_SlowOrder_l18 fu x1 x2 x16 w3007 w3008 w3009 w3015)) (Q6_18 x1 (List.map (encI .i64) x2) x16 (List.map api_Message.enc w3007) (List.map api_Message.enc w3008) (List.map api_Message.enc w3009) (List.map encB w3015)) := by
  intro fu
  induction fu with
  | zero => intros; exact le_none
  | succ fu ih =>
    intro x1 x2 x16 w3007 w3008 w3009 w3015
    refine Le.trans ?_ (le_of_eq ((lab_realC Cr6).trans (T6_18 _ _ _ _ _ _ _  x1 x2 x16 w3007 w3008 w3009 w3015)).symm)
    unfold brokerlaw17_SlowOrder_l18
    refine le_cond (by simp only [EN]) (fun _ => ?_) (fun _ => ?_)
    · skip
      refine le_cond rfl (fun _ => ?_) (fun _ => ?_)
      · skip
        refine le_cond (by simp only [EN]) (fun _ => ?_) (fun _ => le_none)
        refine le_cond (by simp only [EN]) (fun _ => ?_) (fun _ => le_none)
        refine le_cond (by simp only [EN]) (fun _ => ?_) (fun _ => ?_)
        · skip
          exact le_ret (by first | rfl | (simp only [EN, brokerlaw17_SlowOrder_out]; done) | (simp only [EN, brokerlaw17_SlowOrder_out]; rfl))
        · skip
          refine le_cond (by simp only [EN]) (fun _ => ?_) (fun _ => le_none)
          refine le_cond (by simp only [EN]) (fun _ => ?_) (fun _ => ?_)
          · skip
            exact le_ret (by first | rfl | (simp only [EN, brokerlaw17_SlowOrder_out]; done) | (simp only [EN, brokerlaw17_SlowOrder_out]; rfl))
          · skip
            refine le_cond (by simp only [EN]) (fun _ => ?_) (fun _ => le_none)
            refine le_cond (by simp only [EN]) (fun _ => ?_) (fun _ => ?_)
            · skip
              exact le_ret (by first | rfl | (simp only [EN, brokerlaw17_SlowOrder_out]; done) | (simp only [EN, brokerlaw17_SlowOrder_out]; rfl))
            · skip
              refine le_cond (by simp only [EN]) (fun _ => ?_) (fun _ => le_none)
              refine le_cond (by simp only [EN]) (fun _ => ?_) (fun _ => le_none)
              first | (simp only [EN]; exact ih x1 x2 (IntKind.wrap .i64 (x16 + 1)) w3007 w3008 w3009 (List.set w3015 (Int.toNat (List.getD w3008 (Int.toNat x16) default).Seq) true)) | exact ih x1 x2 (IntKind.wrap .i64 (x16 + 1)) w3007 w3008 w3009 (List.set w3015 (Int.toNat (List.getD w3008 (Int.toNat x16) default).Seq) true)
      · skip
        refine le_cond (by simp only [EN]) (fun _ => ?_) (fun _ => le_none)
        refine le_cond (by simp only [EN]) (fun _ => ?_) (fun _ => ?_)
        · skip
          exact le_ret (by first | rfl | (simp only [EN, brokerlaw17_SlowOrder_out]; done) | (simp only [EN, brokerlaw17_SlowOrder_out]; rfl))
        · skip
          refine le_cond (by simp only [EN]) (fun _ => ?_) (fun _ => le_none)
          refine le_cond (by simp only [EN]) (fun _ => ?_) (fun _ => ?_)
          · skip
            exact le_ret (by first | rfl | (simp only [EN, brokerlaw17_SlowOrder_out]; done) | (simp only [EN, brokerlaw17_SlowOrder_out]; rfl))
          · skip
            refine le_cond (by simp only [EN]) (fun _ => ?_) (fun _ => le_none)
            refine le_cond (by simp only [EN]) (fun _ => ?_) (fun _ => le_none)
            first | (simp only [EN]; exact ih x1 x2 (IntKind.wrap .i64 (x16 + 1)) w3007 w3008 w3009 (List.set w3015 (Int.toNat (List.getD w3008 (Int.toNat x16) default).Seq) true)) | exact ih x1 x2 (IntKind.wrap .i64 (x16 + 1)) w3007 w3008 w3009 (List.set w3015 (Int.toNat (List.getD w3008 (Int.toNat x16) default).Seq) true)
    · skip
      exact brokerlaw17_SlowOrder_l24_ok fuel x1 x2 0 w3007 w3008 w3009 w3015
theorem brokerlaw17_SlowOrder_j16_ok (x1 : Int) (x2 : (List Int)) (w3007 : (List api_Message)) (w3008 : (List api_Message)) (w3009 : (List api_Message)) : Le (Option.map brokerlaw17_SlowOrder_out (brokerlaw17_SlowOrder_j16 x1 x2 w3007 w3008 w3009)) (Q6_16 x1 (List.map (encI .i64) x2) (List.map api_Message.enc w3007) (List.map api_Message.enc w3008) (List.map api_Message.enc w3009)) := by
  refine Le.trans ?_ (le_of_eq ((lab_realC Cr6).trans (T6_16 _ _ _ _ _ _ _  x1 x2 w3007 w3008 w3009)).symm)
  unfold brokerlaw17_SlowOrder_j16
  refine le_cond (by simp only [EN]) (fun _ => ?_) (fun _ => le_none)
  first | (simp only [EN]; exact brokerlaw17_SlowOrder_l18_ok fuel x1 x2 0 w3007 w3008 w3009 (List.replicate (Int.toNat (IntKind.wrap .i64 ((List.length w3007 : Int) + 1))) default)) | exact brokerlaw17_SlowOrder_l18_ok fuel x1 x2 0 w3007 w3008 w3009 (List.replicate (Int.toNat (IntKind.wrap .i64 ((List.length w3007 : Int) + 1))) default)
theorem brokerlaw17_SlowOrder_l4_ok : ∀ (fu : Nat) (x1 : Int) (x2 : (List Int)) (x10 : Int) (w3007 : (List api_Message)) (w3008 : (List api_Message)) (w3009 : (List api_Message)), Le (Option.map brokerlaw17_SlowOrder_out (brokerlaw17_SlowOrder_l4 fu x1 x2 x10 w3007 w3008 w3009)) (Q6_4 x1 (List.map (encI .i64) x2) x10 (List.map api_Message.enc w3007) (List.map api_Message.enc w3008) (List.map api_Message.enc w3009)) := by
  intro fu
  induction fu with
  | zero => intros; exact le_none
  | succ fu ih =>
    intro x1 x2 x10 w3007 w3008 w3009
    refine Le.trans ?_ (le_of_eq ((lab_realC Cr6).trans (T6_4 _ _ _ _ _ _ _  x1 x2 x10 w3007 w3008 w3009)).symm)
    unfold brokerlaw17_SlowOrder_l4
    refine le_cond (by simp only [EN]) (fun _ => ?_) (fun _ => ?_)
    · skip
      refine le_cond (by simp only [EN]) (fun _ => ?_) (fun _ => ?_)
      · skip
        refine le_cond (by simp only [EN]) (fun _ => ?_) (fun _ => le_none)
        refine le_cond (by simp only [EN]) (fun _ => ?_) (fun _ => le_none)
        first | (simp only [EN]; exact brokerlaw17_SlowOrder_j9_ok _ (ih) x1 x2 x10 (List.getD x2 (Int.toNat (Int.tmod x10 (List.length x2 : Int))) default) w3007 w3008 w3009) | exact brokerlaw17_SlowOrder_j9_ok _ (ih) x1 x2 x10 (List.getD x2 (Int.toNat (Int.tmod x10 (List.length x2 : Int))) default) w3007 w3008 w3009
      · skip
        exact brokerlaw17_SlowOrder_j9_ok _ (ih) x1 x2 x10 2 w3007 w3008 w3009
    · skip
      refine le_cond (by simp only [EN]) (fun _ => ?_) (fun _ => ?_)
      · skip
        exact le_ret (by first | rfl | (simp only [EN, brokerlaw17_SlowOrder_out]; done) | (simp only [EN, brokerlaw17_SlowOrder_out]; rfl))
      · skip
        refine le_cond (by simp only [EN]) (fun _ => ?_) (fun _ => ?_)
        · skip
          refine le_cond (by simp only [EN]) (fun _ => ?_) (fun _ => ?_)
          · skip
            exact le_ret (by first | rfl | (simp only [EN, brokerlaw17_SlowOrder_out]; done) | (simp only [EN, brokerlaw17_SlowOrder_out]; rfl))
          · skip
            exact brokerlaw17_SlowOrder_j16_ok x1 x2 w3007 w3008 w3009
        · skip
          exact brokerlaw17_SlowOrder_j16_ok x1 x2 w3007 w3008 w3009
theorem brokerlaw17_SlowOrder_ok (p0 : Int) (p1 : Int) (p2 : (List Int)) : Le (Option.map brokerlaw17_SlowOrder_out (brokerlaw17_SlowOrder p0 p1 p2)) (callW SE 6 [.d (.int .u8 p0), .d (.int .i64 p1), .d (.sl [.int .i64] (List.map (encI .i64) p2))] [] []) := by
  refine le_bodyC Cr6 ?_
  refine Le.trans ?_ (le_of_eq (T6 _ _ _ _ _ _ _  p0 p1 p2).symm)
  unfold brokerlaw17_SlowOrder
  refine le_call (good := good) (fun y => ⟨y, rfl⟩) brokerlaw17_numbered_inj (brokerlaw17_numbered_ok (Int.tmod (IntKind.wrap .i64 p0) 101)) (fun r0 _ => ?_)
  first | (simp only [EN]; exact brokerlaw17_SlowOrder_l4_ok fuel p1 p2 0 r0 ([] : List api_Message) ([] : List api_Message)) | exact brokerlaw17_SlowOrder_l4_ok fuel p1 p2 0 r0 ([] : List api_Message) ([] : List api_Message)
def C7 (Γ : Fun) (γ9 : List AV → List Bx → List Rw → ((Bool) → Res) → Res) (γ10 : List AV → List Bx → List Rw → ((Bool) → Res) → Res) (γ11 : List AV → List Bx → List Rw → (((List api_Message) × (List api_Message) × Bool) → Res) → Res) : CFun := updC (updC (updC (bindC Γ) 9 brokerlaw17_few_out γ9) 10 brokerlaw17_awake_out γ10) 11 slow_Push_out γ11
theorem T7 (Γ : Fun) (γ9 : List AV → List Bx → List Rw → ((Bool) → Res) → Res) (γ10 : List AV → List Bx → List Rw → ((Bool) → Res) → Res) (γ11 : List AV → List Bx → List Rw → (((List api_Message) × (List api_Message) × Bool) → Res) → Res) (Λ2 J : Lam) (p0 : (List api_Message)) (p1 : api_Message) (p2 : Int) (p3 : Int) : bodyC SE (C7 Γ γ9 γ10 γ11) Λ2 J 7 [.d (.sl api_Message.ks (List.map api_Message.enc p0)), .agg [.d (.str p1.Topic), .d (.str p1.Payload), .d (.int .i64 p1.Level), .d (.bool p1.Retain), .d (.int .i64 p1.Priority), .d (.int .i64 p1.Expires), .d (.str p1.From), .d (.int .i64 p1.Seq), .d (.sl api_Prop.ks (List.map api_Prop.enc p1.Props))], .d (.int .i64 p2), .d (.int .i64 p3)] [] [] =
  γ9 [.d (.sl api_Message.ks (List.map api_Message.enc p0))] [] [] fun r0 =>
  cond (!r0) (
   γ10 [] [] [] fun r1 =>
   (some (.ret [.d (.bool r1)] [] []))) (
  γ11 [.d (.sl api_Message.ks (List.map api_Message.enc p0)), .agg [.d (.str p1.Topic), .d (.str p1.Payload), .d (.int .i64 p1.Level), .d (.bool p1.Retain), .d (.int .i64 p1.Priority), .d (.int .i64 p1.Expires), .d (.str p1.From), .d (.int .i64 p1.Seq), .d (.sl api_Prop.ks (List.map api_Prop.enc p1.Props))], .d (.int .i64 p2), .d (.int .i64 p3)] [] [] fun r2 =>
  γ10 [] [] [] fun r3 =>
  cond r3 (
   cond (decide ((List.length (List.map api_Message.enc p0) : Int) ≥ p2)) (
    cond (r2.2.2 == (p3 == 3)) (
     cond (((List.length (List.map api_Message.enc r2.2.1) : Int) == 1) == (decide ((List.length (List.map api_Message.enc p0) : Int) ≥ p2))) (
      (some (.ret [.d (.bool ((IntKind.wrap .i64 ((List.length (List.map api_Message.enc r2.1) : Int) + (List.length (List.map api_Message.enc r2.2.1) : Int))) == (IntKind.wrap .i64 ((List.length (List.map api_Message.enc p0) : Int) + 1))))] [] []))) (
     (some (.ret [.d (.bool false)] [] [])))) (
    (some (.ret [.d (.bool false)] [] [])))) (
   cond (r2.2.2 == false) (
    cond (((List.length (List.map api_Message.enc r2.2.1) : Int) == 1) == (decide ((List.length (List.map api_Message.enc p0) : Int) ≥ p2))) (
     (some (.ret [.d (.bool ((IntKind.wrap .i64 ((List.length (List.map api_Message.enc r2.1) : Int) + (List.length (List.map api_Message.enc r2.2.1) : Int))) == (IntKind.wrap .i64 ((List.length (List.map api_Message.enc p0) : Int) + 1))))] [] []))) (
    (some (.ret [.d (.bool false)] [] [])))) (
   (some (.ret [.d (.bool false)] [] []))))) (
  (some (.ret [.d (.bool false)] [] [])))) := by kernel_rfl
theorem Cr7 : C7 (callG SE good) (callT SE good 9 brokerlaw17_few_out) (callT SE good 10 brokerlaw17_awake_out) (callT SE good 11 slow_Push_out) = bindC (callG SE good) := by unfold C7; rw [updC_real (fun _ h => h), updC_real (fun _ h => h), updC_real (fun _ h => h)]
theorem brokerlaw17_SlowEvicts_ok (p0 : (List api_Message)) (p1 : api_Message) (p2 : Int) (p3 : Int) : Le (Option.map brokerlaw17_SlowEvicts_out (brokerlaw17_SlowEvicts p0 p1 p2 p3)) (callW SE 7 [.d (.sl api_Message.ks (List.map api_Message.enc p0)), .agg [.d (.str p1.Topic), .d (.str p1.Payload), .d (.int .i64 p1.Level), .d (.bool p1.Retain), .d (.int .i64 p1.Priority), .d (.int .i64 p1.Expires), .d (.str p1.From), .d (.int .i64 p1.Seq), .d (.sl api_Prop.ks (List.map api_Prop.enc p1.Props))], .d (.int .i64 p2), .d (.int .i64 p3)] [] []) := by
  refine le_bodyC Cr7 ?_
  refine Le.trans ?_ (le_of_eq (T7 _ _ _ _ _ _  p0 p1 p2 p3).symm)
  unfold brokerlaw17_SlowEvicts
  refine le_call (good := good) (fun y => ⟨y, rfl⟩) brokerlaw17_few_inj (brokerlaw17_few_ok p0) (fun r0 _ => ?_)
  refine le_cond rfl (fun _ => ?_) (fun _ => ?_)
  · skip
    refine le_call (good := good) (fun y => ⟨y, rfl⟩) brokerlaw17_awake_inj (brokerlaw17_awake_ok) (fun r1 _ => ?_)
    exact le_ret (by first | rfl | (simp only [EN, brokerlaw17_SlowEvicts_out]; done) | (simp only [EN, brokerlaw17_SlowEvicts_out]; rfl))
  · skip
    refine le_call (good := good) (fun y => ⟨y, rfl⟩) slow_Push_inj (slow_Push_ok p0 p1 p2 p3) (fun r2 _ => ?_)
    refine le_call (good := good) (fun y => ⟨y, rfl⟩) brokerlaw17_awake_inj (brokerlaw17_awake_ok) (fun r3 _ => ?_)
    refine le_cond rfl (fun _ => ?_) (fun _ => ?_)
    · skip
      refine le_cond (by simp only [EN]) (fun _ => ?_) (fun _ => ?_)
      · skip
        refine le_cond rfl (fun _ => ?_) (fun _ => ?_)
        · skip
          refine le_cond (by simp only [EN]) (fun _ => ?_) (fun _ => ?_)
          · skip
            exact le_ret (by first | rfl | (simp only [EN, brokerlaw17_SlowEvicts_out]; done) | (simp only [EN, brokerlaw17_SlowEvicts_out]; rfl))
          · skip
            exact le_ret (by first | rfl | (simp only [EN, brokerlaw17_SlowEvicts_out]; done) | (simp only [EN, brokerlaw17_SlowEvicts_out]; rfl))
        · skip
          exact le_ret (by first | rfl | (simp only [EN, brokerlaw17_SlowEvicts_out]; done) | (simp only [EN, brokerlaw17_SlowEvicts_out]; rfl))
      · skip
        refine le_cond rfl (fun _ => ?_) (fun _ => ?_)
        · skip
          refine le_cond (by simp only [EN]) (fun _ => ?_) (fun _ => ?_)
          · skip
            exact le_ret (by first | rfl | (simp only [EN, brokerlaw17_SlowEvicts_out]; done) | (simp only [EN, brokerlaw17_SlowEvicts_out]; rfl))
          · skip
            exact le_ret (by first | rfl | (simp only [EN, brokerlaw17_SlowEvicts_out]; done) | (simp only [EN, brokerlaw17_SlowEvicts_out]; rfl))
        · skip
          exact le_ret (by first | rfl | (simp only [EN, brokerlaw17_SlowEvicts_out]; done) | (simp only [EN, brokerlaw17_SlowEvicts_out]; rfl))
    · skip
      exact le_ret (by first | rfl | (simp only [EN, brokerlaw17_SlowEvicts_out]; done) | (simp only [EN, brokerlaw17_SlowEvicts_out]; rfl))
def C20 (Γ : Fun) (γ24 : List AV → List Bx → List Rw → ((Bool) → Res) → Res) (γ23 : List AV → List Bx → List Rw → ((api_Message) → Res) → Res) : CFun := updC (updC (bindC Γ) 24 message_Expired_out γ24) 23 slow_copied_out γ23
def R20_3 (C : CFun) (Λ2 J : Lam) (a0 : Int) (a1 : (List (List D))) (a2 : Int) (a3 : Int) (a4 : (List (List D))) (a5 : (List (List D))) : Res := lab SE C Λ2 J 20 0 [1, 1, 0, 1, 0] (stoOf [(1, .d (.int .i64 a0)), (6, .row 3006), (7, .row 3007), (10, .d (.sl api_Message.ks a1)), (11, .d (.int .i64 a2)), (12, .d (.int .i64 a3))] [] [] [] [(3006, ⟨api_Message.ks, 25, 112, a4⟩), (3007, ⟨api_Message.ks, 25, 112, a5⟩)])
theorem T20 (Γ : Fun) (γ24 : List AV → List Bx → List Rw → ((Bool) → Res) → Res) (γ23 : List AV → List Bx → List Rw → ((api_Message) → Res) → Res) (Λ2 J : Lam) (p0 : (List api_Message)) (p1 : Int) : bodyC SE (C20 Γ γ24 γ23) Λ2 J 20 [.d (.sl api_Message.ks (List.map api_Message.enc p0)), .d (.int .i64 p1)] [] [] =
  R20_3 (C20 Γ γ24 γ23) Λ2 J p1 (List.map api_Message.enc p0) (List.length (List.map api_Message.enc p0) : Int) 0 (List.map api_Message.enc []) (List.map api_Message.enc []) := by kernel_rfl
theorem T20_3 (Γ : Fun) (γ24 : List AV → List Bx → List Rw → ((Bool) → Res) → Res) (γ23 : List AV → List Bx → List Rw → ((api_Message) → Res) → Res) (Λ2 J : Lam) (x1 : Int) (x10 : (List api_Message)) (x11 : Int) (x12 : Int) (w3006 : (List api_Message)) (w3007 : (List api_Message)) : labU SE (C20 Γ γ24 γ23) Λ2 J 20 0 [1, 1, 0, 1, 0] (stoOf [(1, .d (.int .i64 x1)), (6, .row 3006), (7, .row 3007), (10, .d (.sl api_Message.ks (List.map api_Message.enc x10))), (11, .d (.int .i64 x11)), (12, .d (.int .i64 x12))] [] [] [] [(3006, ⟨api_Message.ks, 25, 112, (List.map api_Message.enc w3006)⟩), (3007, ⟨api_Message.ks, 25, 112, (List.map api_Message.enc w3007)⟩)]) =
  cond (decide (x12 < x11)) (
   cond (decide (0 ≤ x12) && decide (x12 < (List.length (List.map api_Message.enc x10) : Int))) (
    γ24 [.agg [.d (.str (dStr (cellAt (elemAt (List.map api_Message.enc x10) (Int.toNat x12)) 0))), .d (.str (dStr (cellAt (elemAt (List.map api_Message.enc x10) (Int.toNat x12)) 1))), .d (.int .i64 (dInt (cellAt (elemAt (List.map api_Message.enc x10) (Int.toNat x12)) 2))), .d (.bool (dBool (cellAt (elemAt (List.map api_Message.enc x10) (Int.toNat x12)) 3))), .d (.int .i64 (dInt (cellAt (elemAt (List.map api_Message.enc x10) (Int.toNat x12)) 4))), .d (.int .i64 (dInt (cellAt (elemAt (List.map api_Message.enc x10) (Int.toNat x12)) 5))), .d (.str (dStr (cellAt (elemAt (List.map api_Message.enc x10) (Int.toNat x12)) 6))), .d (.int .i64 (dInt (cellAt (elemAt (List.map api_Message.enc x10) (Int.toNat x12)) 7))), .d (.sl api_Prop.ks (dSl (cellAt (elemAt (List.map api_Message.enc x10) (Int.toNat x12)) 8)))], .d (.int .i64 x1)] [] [] fun r0 =>
    cond r0 (
     γ23 [.agg [.d (.str (dStr (cellAt (elemAt (List.map api_Message.enc x10) (Int.toNat x12)) 0))), .d (.str (dStr (cellAt (elemAt (List.map api_Message.enc x10) (Int.toNat x12)) 1))), .d (.int .i64 (dInt (cellAt (elemAt (List.map api_Message.enc x10) (Int.toNat x12)) 2))), .d (.bool (dBool (cellAt (elemAt (List.map api_Message.enc x10) (Int.toNat x12)) 3))), .d (.int .i64 (dInt (cellAt (elemAt (List.map api_Message.enc x10) (Int.toNat x12)) 4))), .d (.int .i64 (dInt (cellAt (elemAt (List.map api_Message.enc x10) (Int.toNat x12)) 5))), .d (.str (dStr (cellAt (elemAt (List.map api_Message.enc x10) (Int.toNat x12)) 6))), .d (.int .i64 (dInt (cellAt (elemAt (List.map api_Message.enc x10) (Int.toNat x12)) 7))), .d (.sl api_Prop.ks (dSl (cellAt (elemAt (List.map api_Message.enc x10) (Int.toNat x12)) 8)))]] [] [] fun r1 =>
     cond (decide ((List.length (List.map api_Message.enc w3007) + List.length (List.map api_Message.enc [r1])) * 112 ≤ 140737488355328)) (
      R20_3 (C20 Γ γ24 γ23) Λ2 J x1 (List.map api_Message.enc x10) x11 (IntKind.wrap .i64 (x12 + 1)) (List.map api_Message.enc w3006) (((List.map api_Message.enc w3007) ++ (List.map api_Message.enc [r1])))) none) (
    γ23 [.agg [.d (.str (dStr (cellAt (elemAt (List.map api_Message.enc x10) (Int.toNat x12)) 0))), .d (.str (dStr (cellAt (elemAt (List.map api_Message.enc x10) (Int.toNat x12)) 1))), .d (.int .i64 (dInt (cellAt (elemAt (List.map api_Message.enc x10) (Int.toNat x12)) 2))), .d (.bool (dBool (cellAt (elemAt (List.map api_Message.enc x10) (Int.toNat x12)) 3))), .d (.int .i64 (dInt (cellAt (elemAt (List.map api_Message.enc x10) (Int.toNat x12)) 4))), .d (.int .i64 (dInt (cellAt (elemAt (List.map api_Message.enc x10) (Int.toNat x12)) 5))), .d (.str (dStr (cellAt (elemAt (List.map api_Message.enc x10) (Int.toNat x12)) 6))), .d (.int .i64 (dInt (cellAt (elemAt (List.map api_Message.enc x10) (Int.toNat x12)) 7))), .d (.sl api_Prop.ks (dSl (cellAt (elemAt (List.map api_Message.enc x10) (Int.toNat x12)) 8)))]] [] [] fun r2 =>
    cond (decide ((List.length (List.map api_Message.enc w3006) + List.length (List.map api_Message.enc [r2])) * 112 ≤ 140737488355328)) (
     R20_3 (C20 Γ γ24 γ23) Λ2 J x1 (List.map api_Message.enc x10) x11 (IntKind.wrap .i64 (x12 + 1)) (((List.map api_Message.enc w3006) ++ (List.map api_Message.enc [r2]))) (List.map api_Message.enc w3007)) none)) none) (
  (some (.ret [.row 0, .row 1] [] [⟨api_Message.ks, 25, 112, (List.map api_Message.enc w3006)⟩, ⟨api_Message.ks, 25, 112, (List.map api_Message.enc w3007)⟩]))) := by kernel_rfl
theorem Cr20 : C20 (callG SE good) (callT SE good 24 message_Expired_out) (callT SE good 23 slow_copied_out) = bindC (callG SE good) := by unfold C20; rw [updC_real (fun _ h => h), updC_real (fun _ h => h)]
noncomputable abbrev Q20_3 (a0 : Int) (a1 : (List (List D))) (a2 : Int) (a3 : Int) (a4 : (List (List D))) (a5 : (List (List D))) : Res := R20_3 (C20 (callG SE good) (callT SE good 24 message_Expired_out) (callT SE good 23 slow_copied_out)) (lam2 SE (callG SE good) (SE.hl 20) (SE.hr 20)) (J0 SE (C20 (callG SE good) (callT SE good 24 message_Expired_out) (callT SE good 23 slow_copied_out))) a0 a1 a2 a3 a4 a5
theorem slow_Expire_l3_ok : ∀ (fu : Nat) (x1 : Int) (x10 : (List api_Message)) (x11 : Int) (x12 : Int) (w3006 : (List api_Message)) (w3007 : (List api_Message)), Le (Option.map slow_Expire_out (slow_Expire_l3 fu x1 x10 x11 x12 w3006 w3007)) (Q20_3 x1 (List.map api_Message.enc x10) x11 x12 (List.map api_Message.enc w3006) (List.map api_Message.enc w3007)) := by
  intro fu
  induction fu with
  | zero => intros; exact le_none
  | succ fu ih =>
    intro x1 x10 x11 x12 w3006 w3007
    refine Le.trans ?_ (le_of_eq ((lab_realC Cr20).trans (T20_3 _ _ _ _ _  x1 x10 x11 x12 w3006 w3007)).symm)
    unfold slow_Expire_l3
    refine le_cond rfl (fun _ => ?_) (fun _ => ?_)
    · skip
      refine le_cond (by simp only [EN]) (fun _ => ?_) (fun _ => le_none)
      refine le_call (good := good) (fun y => ⟨y, rfl⟩) message_Expired_inj (by first | (simp only [EN]; exact message_Expired_ok (List.getD x10 (Int.toNat x12) default) x1) | exact message_Expired_ok (List.getD x10 (Int.toNat x12) default) x1) (fun r0 _ => ?_)
      refine le_cond rfl (fun _ => ?_) (fun _ => ?_)
      · skip
        refine le_call (good := good) (fun y => ⟨y, rfl⟩) slow_copied_inj (by first | (simp only [EN]; exact slow_copied_ok (List.getD x10 (Int.toNat x12) default)) | exact slow_copied_ok (List.getD x10 (Int.toNat x12) default)) (fun r1 _ => ?_)
        refine le_cond (by simp only [EN]) (fun _ => ?_) (fun _ => le_none)
        first | (simp only [EN]; exact ih x1 x10 x11 (IntKind.wrap .i64 (x12 + 1)) w3006 (w3007 ++ [r1])) | exact ih x1 x10 x11 (IntKind.wrap .i64 (x12 + 1)) w3006 (w3007 ++ [r1])
      · skip
        refine le_call (good := good) (fun y => ⟨y, rfl⟩) slow_copied_inj (by first | (simp only [EN]; exact slow_copied_ok (List.getD x10 (Int.toNat x12) default)) | exact slow_copied_ok (List.getD x10 (Int.toNat x12) default)) (fun r2 _ => ?_)
        refine le_cond (by simp only [EN]) (fun _ => ?_) (fun _ => le_none)
        first | (simp only [EN]; exact ih x1 x10 x11 (IntKind.wrap .i64 (x12 + 1)) (w3006 ++ [r2]) w3007) | exact ih x1 x10 x11 (IntKind.wrap .i64 (x12 + 1)) (w3006 ++ [r2]) w3007
    · skip
      exact le_ret (by first | rfl | (simp only [EN, slow_Expire_out]; done) | (simp only [EN, slow_Expire_out]; rfl))
theorem slow_Expire_ok (p0 : (List api_Message)) (p1 : Int) : Le (Option.map slow_Expire_out (slow_Expire p0 p1)) (callW SE 20 [.d (.sl api_Message.ks (List.map api_Message.enc p0)), .d (.int .i64 p1)] [] []) := by
  refine le_bodyC Cr20 ?_
  refine Le.trans ?_ (le_of_eq (T20 _ _ _ _ _  p0 p1).symm)
  unfold slow_Expire
  first | (simp only [EN]; exact slow_Expire_l3_ok fuel p1 p0 (List.length p0 : Int) 0 ([] : List api_Message) ([] : List api_Message)) | exact slow_Expire_l3_ok fuel p1 p0 (List.length p0 : Int) 0 ([] : List api_Message) ([] : List api_Message)
def C21 (Γ : Fun) (γ25 : List AV → List Bx → List Rw → ((Bool) → Res) → Res) : CFun := updC (bindC Γ) 25 brokerref05_Expired_out γ25
def R21_3 (C : CFun) (Λ2 J : Lam) (a0 : (List (List D))) (a1 : Int) (a2 : Int) (a3 : (List (List D))) (a4 : (List (List D))) : Res := lab SE C Λ2 J 21 0 [1, 1, 0, 1, 0] (stoOf [(0, .d (.sl api_Message.ks a0)), (1, .d (.int .i64 a1)), (6, .row 3006), (7, .row 3007), (8, .d (.int .i64 a2))] [] [] [] [(3006, ⟨api_Message.ks, 25, 112, a3⟩), (3007, ⟨api_Message.ks, 25, 112, a4⟩)])
theorem T21 (Γ : Fun) (γ25 : List AV → List Bx → List Rw → ((Bool) → Res) → Res) (Λ2 J : Lam) (p0 : (List api_Message)) (p1 : Int) : bodyC SE (C21 Γ γ25) Λ2 J 21 [.d (.sl api_Message.ks (List.map api_Message.enc p0)), .d (.int .i64 p1)] [] [] =
  R21_3 (C21 Γ γ25) Λ2 J (List.map api_Message.enc p0) p1 0 (List.map api_Message.enc []) (List.map api_Message.enc []) := by kernel_rfl
theorem T21_3 (Γ : Fun) (γ25 : List AV → List Bx → List Rw → ((Bool) → Res) → Res) (Λ2 J : Lam) (x0 : (List api_Message)) (x1 : Int) (x8 : Int) (w3006 : (List api_Message)) (w3007 : (List api_Message)) : labU SE (C21 Γ γ25) Λ2 J 21 0 [1, 1, 0, 1, 0] (stoOf [(0, .d (.sl api_Message.ks (List.map api_Message.enc x0))), (1, .d (.int .i64 x1)), (6, .row 3006), (7, .row 3007), (8, .d (.int .i64 x8))] [] [] [] [(3006, ⟨api_Message.ks, 25, 112, (List.map api_Message.enc w3006)⟩), (3007, ⟨api_Message.ks, 25, 112, (List.map api_Message.enc w3007)⟩)]) =
  cond (decide (x8 < (List.length (List.map api_Message.enc x0) : Int))) (
   cond (decide (0 ≤ x8) && decide (x8 < (List.length (List.map api_Message.enc x0) : Int))) (
    γ25 [.agg [.d (.str (dStr (cellAt (elemAt (List.map api_Message.enc x0) (Int.toNat x8)) 0))), .d (.str (dStr (cellAt (elemAt (List.map api_Message.enc x0) (Int.toNat x8)) 1))), .d (.int .i64 (dInt (cellAt (elemAt (List.map api_Message.enc x0) (Int.toNat x8)) 2))), .d (.bool (dBool (cellAt (elemAt (List.map api_Message.enc x0) (Int.toNat x8)) 3))), .d (.int .i64 (dInt (cellAt (elemAt (List.map api_Message.enc x0) (Int.toNat x8)) 4))), .d (.int .i64 (dInt (cellAt (elemAt (List.map api_Message.enc x0) (Int.toNat x8)) 5))), .d (.str (dStr (cellAt (elemAt (List.map api_Message.enc x0) (Int.toNat x8)) 6))), .d (.int .i64 (dInt (cellAt (elemAt (List.map api_Message.enc x0) (Int.toNat x8)) 7))), .d (.sl api_Prop.ks (dSl (cellAt (elemAt (List.map api_Message.enc x0) (Int.toNat x8)) 8)))], .d (.int .i64 x1)] [] [] fun r0 =>
    cond r0 (
     cond (decide (0 ≤ x8) && decide (x8 < (List.length (List.map api_Message.enc x0) : Int))) (
      cond (decide ((List.length (List.map api_Message.enc w3007) + List.length [[D.str (dStr (cellAt (elemAt (List.map api_Message.enc x0) (Int.toNat x8)) 0)), D.str (dStr (cellAt (elemAt (List.map api_Message.enc x0) (Int.toNat x8)) 1)), D.int .i64 (dInt (cellAt (elemAt (List.map api_Message.enc x0) (Int.toNat x8)) 2)), D.bool (dBool (cellAt (elemAt (List.map api_Message.enc x0) (Int.toNat x8)) 3)), D.int .i64 (dInt (cellAt (elemAt (List.map api_Message.enc x0) (Int.toNat x8)) 4)), D.int .i64 (dInt (cellAt (elemAt (List.map api_Message.enc x0) (Int.toNat x8)) 5)), D.str (dStr (cellAt (elemAt (List.map api_Message.enc x0) (Int.toNat x8)) 6)), D.int .i64 (dInt (cellAt (elemAt (List.map api_Message.enc x0) (Int.toNat x8)) 7)), D.sl api_Prop.ks (dSl (cellAt (elemAt (List.map api_Message.enc x0) (Int.toNat x8)) 8))]]) * 112 ≤ 140737488355328)) (
       R21_3 (C21 Γ γ25) Λ2 J (List.map api_Message.enc x0) x1 (IntKind.wrap .i64 (x8 + 1)) (List.map api_Message.enc w3006) (((List.map api_Message.enc w3007) ++ [[D.str (dStr (cellAt (elemAt (List.map api_Message.enc x0) (Int.toNat x8)) 0)), D.str (dStr (cellAt (elemAt (List.map api_Message.enc x0) (Int.toNat x8)) 1)), D.int .i64 (dInt (cellAt (elemAt (List.map api_Message.enc x0) (Int.toNat x8)) 2)), D.bool (dBool (cellAt (elemAt (List.map api_Message.enc x0) (Int.toNat x8)) 3)), D.int .i64 (dInt (cellAt (elemAt (List.map api_Message.enc x0) (Int.toNat x8)) 4)), D.int .i64 (dInt (cellAt (elemAt (List.map api_Message.enc x0) (Int.toNat x8)) 5)), D.str (dStr (cellAt (elemAt (List.map api_Message.enc x0) (Int.toNat x8)) 6)), D.int .i64 (dInt (cellAt (elemAt (List.map api_Message.enc x0) (Int.toNat x8)) 7)), D.sl api_Prop.ks (dSl (cellAt (elemAt (List.map api_Message.enc x0) (Int.toNat x8)) 8))]]))) none) none) (
    cond (decide (0 ≤ x8) && decide (x8 < (List.length (List.map api_Message.enc x0) : Int))) (
     cond (decide ((List.length (List.map api_Message.enc w3006) + List.length [[D.str (dStr (cellAt (elemAt (List.map api_Message.enc x0) (Int.toNat x8)) 0)), D.str (dStr (cellAt (elemAt (List.map api_Message.enc x0) (Int.toNat x8)) 1)), D.int .i64 (dInt (cellAt (elemAt (List.map api_Message.enc x0) (Int.toNat x8)) 2)), D.bool (dBool (cellAt (elemAt (List.map api_Message.enc x0) (Int.toNat x8)) 3)), D.int .i64 (dInt (cellAt (elemAt (List.map api_Message.enc x0) (Int.toNat x8)) 4)), D.int .i64 (dInt (cellAt (elemAt (List.map api_Message.enc x0) (Int.toNat x8)) 5)), D.str (dStr (cellAt (elemAt (List.map api_Message.enc x0) (Int.toNat x8)) 6)), D.int .i64 (dInt (cellAt (elemAt (List.map api_Message.enc x0) (Int.toNat x8)) 7)), D.sl api_Prop.ks (dSl (cellAt (elemAt (List.map api_Message.enc x0) (Int.toNat x8)) 8))]]) * 112 ≤ 140737488355328)) (
      R21_3 (C21 Γ γ25) Λ2 J (List.map api_Message.enc x0) x1 (IntKind.wrap .i64 (x8 + 1)) (((List.map api_Message.enc w3006) ++ [[D.str (dStr (cellAt (elemAt (List.map api_Message.enc x0) (Int.toNat x8)) 0)), D.str (dStr (cellAt (elemAt (List.map api_Message.enc x0) (Int.toNat x8)) 1)), D.int .i64 (dInt (cellAt (elemAt (List.map api_Message.enc x0) (Int.toNat x8)) 2)), D.bool (dBool (cellAt (elemAt (List.map api_Message.enc x0) (Int.toNat x8)) 3)), D.int .i64 (dInt (cellAt (elemAt (List.map api_Message.enc x0) (Int.toNat x8)) 4)), D.int .i64 (dInt (cellAt (elemAt (List.map api_Message.enc x0) (Int.toNat x8)) 5)), D.str (dStr (cellAt (elemAt (List.map api_Message.enc x0) (Int.toNat x8)) 6)), D.int .i64 (dInt (cellAt (elemAt (List.map api_Message.enc x0) (Int.toNat x8)) 7)), D.sl api_Prop.ks (dSl (cellAt (elemAt (List.map api_Message.enc x0) (Int.toNat x8)) 8))]])) (List.map api_Message.enc w3007)) none) none)) none) (
  (some (.ret [.row 0, .row 1] [] [⟨api_Message.ks, 25, 112, (List.map api_Message.enc w3006)⟩, ⟨api_Message.ks, 25, 112, (List.map api_Message.enc w3007)⟩]))) := by kernel_rfl
theorem Cr21 : C21 (callG SE good) (callT SE good 25 brokerref05_Expired_out) = bindC (callG SE good) := by unfold C21; rw [updC_real (fun _ h => h)]
noncomputable abbrev Q21_3 (a0 : (List (List D))) (a1 : Int) (a2 : Int) (a3 : (List (List D))) (a4 : (List (List D))) : Res := R21_3 (C21 (callG SE good) (callT SE good 25 brokerref05_Expired_out)) (lam2 SE (callG SE good) (SE.hl 21) (SE.hr 21)) (J0 SE (C21 (callG SE good) (callT SE good 25 brokerref05_Expired_out))) a0 a1 a2 a3 a4
theorem brokerref17_Expire_l3_ok : ∀ (fu : Nat) (x0 : (List api_Message)) (x1 : Int) (x8 : Int) (w3006 : (List api_Message)) (w3007 : (List api_Message)), Le (Option.map brokerref17_Expire_out (brokerref17_Expire_l3 fu x0 x1 x8 w3006 w3007)) (Q21_3 (List.map api_Message.enc x0) x1 x8 (List.map api_Message.enc w3006) (List.map api_Message.enc w3007)) := by
  intro fu
  induction fu with
  | zero => intros; exact le_none
  | succ fu ih =>
    intro x0 x1 x8 w3006 w3007
    refine Le.trans ?_ (le_of_eq ((lab_realC Cr21).trans (T21_3 _ _ _ _  x0 x1 x8 w3006 w3007)).symm)
    unfold brokerref17_Expire_l3
    refine le_cond (by simp only [EN]) (fun _ => ?_) (fun _ => ?_)
    · skip
      refine le_cond (by simp only [EN]) (fun _ => ?_) (fun _ => le_none)
      refine le_call (good := good) (fun y => ⟨y, rfl⟩) brokerref05_Expired_inj (by first | (simp only [EN]; exact brokerref05_Expired_ok (List.getD x0 (Int.toNat x8) default) x1) | exact brokerref05_Expired_ok (List.getD x0 (Int.toNat x8) default) x1) (fun r0 _ => ?_)
      refine le_cond rfl (fun _ => ?_) (fun _ => ?_)
      · skip
        refine le_cond (by simp only [EN]) (fun _ => ?_) (fun _ => le_none)
        refine le_cond (by simp only [EN]) (fun _ => ?_) (fun _ => le_none)
        first | (simp only [EN]; exact ih x0 x1 (IntKind.wrap .i64 (x8 + 1)) w3006 (w3007 ++ [(List.getD x0 (Int.toNat x8) default)])) | exact ih x0 x1 (IntKind.wrap .i64 (x8 + 1)) w3006 (w3007 ++ [(List.getD x0 (Int.toNat x8) default)])
      · skip
        refine le_cond (by simp only [EN]) (fun _ => ?_) (fun _ => le_none)
        refine le_cond (by simp only [EN]) (fun _ => ?_) (fun _ => le_none)
        first | (simp only [EN]; exact ih x0 x1 (IntKind.wrap .i64 (x8 + 1)) (w3006 ++ [(List.getD x0 (Int.toNat x8) default)]) w3007) | exact ih x0 x1 (IntKind.wrap .i64 (x8 + 1)) (w3006 ++ [(List.getD x0 (Int.toNat x8) default)]) w3007
    · skip
      exact le_ret (by first | rfl | (simp only [EN, brokerref17_Expire_out]; done) | (simp only [EN, brokerref17_Expire_out]; rfl))
theorem brokerref17_Expire_ok (p0 : (List api_Message)) (p1 : Int) : Le (Option.map brokerref17_Expire_out (brokerref17_Expire p0 p1)) (callW SE 21 [.d (.sl api_Message.ks (List.map api_Message.enc p0)), .d (.int .i64 p1)] [] []) := by
  refine le_bodyC Cr21 ?_
  refine Le.trans ?_ (le_of_eq (T21 _ _ _ _  p0 p1).symm)
  unfold brokerref17_Expire
  first | (simp only [EN]; exact brokerref17_Expire_l3_ok fuel p0 p1 0 ([] : List api_Message) ([] : List api_Message)) | exact brokerref17_Expire_l3_ok fuel p0 p1 0 ([] : List api_Message) ([] : List api_Message)
def C8 (Γ : Fun) (γ9 : List AV → List Bx → List Rw → ((Bool) → Res) → Res) (γ10 : List AV → List Bx → List Rw → ((Bool) → Res) → Res) (γ20 : List AV → List Bx → List Rw → (((List api_Message) × (List api_Message)) → Res) → Res) (γ21 : List AV → List Bx → List Rw → (((List api_Message) × (List api_Message)) → Res) → Res) (γ13 : List AV → List Bx → List Rw → ((Bool) → Res) → Res) : CFun := updC (updC (updC (updC (updC (bindC Γ) 9 brokerlaw17_few_out γ9) 10 brokerlaw17_awake_out γ10) 20 slow_Expire_out γ20) 21 brokerref17_Expire_out γ21) 13 brokerref17_Same_out γ13
theorem T8 (Γ : Fun) (γ9 : List AV → List Bx → List Rw → ((Bool) → Res) → Res) (γ10 : List AV → List Bx → List Rw → ((Bool) → Res) → Res) (γ20 : List AV → List Bx → List Rw → (((List api_Message) × (List api_Message)) → Res) → Res) (γ21 : List AV → List Bx → List Rw → (((List api_Message) × (List api_Message)) → Res) → Res) (γ13 : List AV → List Bx → List Rw → ((Bool) → Res) → Res) (Λ2 J : Lam) (p0 : (List api_Message)) (p1 : Int) : bodyC SE (C8 Γ γ9 γ10 γ20 γ21 γ13) Λ2 J 8 [.d (.sl api_Message.ks (List.map api_Message.enc p0)), .d (.int .i64 p1)] [] [] =
  γ9 [.d (.sl api_Message.ks (List.map api_Message.enc p0))] [] [] fun r0 =>
  cond (!r0) (
   γ10 [] [] [] fun r1 =>
   (some (.ret [.d (.bool r1)] [] []))) (
  γ20 [.d (.sl api_Message.ks (List.map api_Message.enc p0)), .d (.int .i64 p1)] [] [] fun r2 =>
  γ21 [.d (.sl api_Message.ks (List.map api_Message.enc p0)), .d (.int .i64 p1)] [] [] fun r3 =>
  γ10 [] [] [] fun r4 =>
  cond r4 (
   γ13 [.d (.sl api_Message.ks (List.map api_Message.enc r2.1)), .d (.sl api_Message.ks (List.map api_Message.enc r3.1))] [] [] fun r5 =>
   cond r5 (
    γ13 [.d (.sl api_Message.ks (List.map api_Message.enc r2.2)), .d (.sl api_Message.ks (List.map api_Message.enc r3.2))] [] [] fun r6 =>
    (some (.ret [.d (.bool r6)] [] []))) (
   (some (.ret [.d (.bool false)] [] [])))) (
  (some (.ret [.d (.bool false)] [] [])))) := by kernel_rfl
theorem Cr8 : C8 (callG SE good) (callT SE good 9 brokerlaw17_few_out) (callT SE good 10 brokerlaw17_awake_out) (callT SE good 20 slow_Expire_out) (callT SE good 21 brokerref17_Expire_out) (callT SE good 13 brokerref17_Same_out) = bindC (callG SE good) := by unfold C8; rw [updC_real (fun _ h => h), updC_real (fun _ h => h), updC_real (fun _ h => h), updC_real (fun _ h => h), updC_real (fun _ h => h)]
theorem brokerlaw17_SlowExpires_ok (p0 : (List api_Message)) (p1 : Int) : Le (Option.map brokerlaw17_SlowExpires_out (brokerlaw17_SlowExpires p0 p1)) (callW SE 8 [.d (.sl api_Message.ks (List.map api_Message.enc p0)), .d (.int .i64 p1)] [] []) := by
  refine le_bodyC Cr8 ?_
  refine Le.trans ?_ (le_of_eq (T8 _ _ _ _ _ _ _ _  p0 p1).symm)
  unfold brokerlaw17_SlowExpires
  refine le_call (good := good) (fun y => ⟨y, rfl⟩) brokerlaw17_few_inj (brokerlaw17_few_ok p0) (fun r0 _ => ?_)
  refine le_cond rfl (fun _ => ?_) (fun _ => ?_)
  · skip
    refine le_call (good := good) (fun y => ⟨y, rfl⟩) brokerlaw17_awake_inj (brokerlaw17_awake_ok) (fun r1 _ => ?_)
    exact le_ret (by first | rfl | (simp only [EN, brokerlaw17_SlowExpires_out]; done) | (simp only [EN, brokerlaw17_SlowExpires_out]; rfl))
  · skip
    refine le_call (good := good) (fun y => ⟨y, rfl⟩) slow_Expire_inj (slow_Expire_ok p0 p1) (fun r2 _ => ?_)
    refine le_call (good := good) (fun y => ⟨y, rfl⟩) brokerref17_Expire_inj (brokerref17_Expire_ok p0 p1) (fun r3 _ => ?_)
    refine le_call (good := good) (fun y => ⟨y, rfl⟩) brokerlaw17_awake_inj (brokerlaw17_awake_ok) (fun r4 _ => ?_)
    refine le_cond rfl (fun _ => ?_) (fun _ => ?_)
    · skip
      refine le_call (good := good) (fun y => ⟨y, rfl⟩) brokerref17_Same_inj (brokerref17_Same_ok r2.1 r3.1) (fun r5 _ => ?_)
      refine le_cond rfl (fun _ => ?_) (fun _ => ?_)
      · skip
        refine le_call (good := good) (fun y => ⟨y, rfl⟩) brokerref17_Same_inj (brokerref17_Same_ok r2.2 r3.2) (fun r6 _ => ?_)
        exact le_ret (by first | rfl | (simp only [EN, brokerlaw17_SlowExpires_out]; done) | (simp only [EN, brokerlaw17_SlowExpires_out]; rfl))
      · skip
        exact le_ret (by first | rfl | (simp only [EN, brokerlaw17_SlowExpires_out]; done) | (simp only [EN, brokerlaw17_SlowExpires_out]; rfl))
    · skip
      exact le_ret (by first | rfl | (simp only [EN, brokerlaw17_SlowExpires_out]; done) | (simp only [EN, brokerlaw17_SlowExpires_out]; rfl))
end Te
end PX
