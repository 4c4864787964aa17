import Derived.Test.YtcfpheihkbkloaaGreatDoorTopicC
import Derived.Test.YtcfpheihkbkloaaGreatDoorPXd
set_option linter.unusedVariables false
set_option linter.unusedSimpArgs false
/- Messages: equality. -/
set_option linter.unusedVariables false
set_option linter.unusedSimpArgs false
namespace PX
open Go
namespace Md
theorem prop_beq (x y : api_Prop) : (x.Key == y.Key && (x.Value == y.Value && true)) = decide (x = y) := by
 cases x; cases y; rw [Bool.eq_iff_iff]; simp
theorem len_beq {α : Type} {a b : List α} (h : a.length = b.length) : ((a.length : Int) == (b.length : Int)) = true := by rw [h]; simp
theorem len_bne {α : Type} {a b : List α} (h : ¬ a.length = b.length) : ((a.length : Int) == (b.length : Int)) = false := by simp; omega
theorem message_Same_eq (a b : api_Message) (ha : a.Props.length < 1000000000000000) : message_Same a b = some (decide (a = b)) := by
 have hj : a.Props.length = b.Props.length → message_Same_j3 a b = some (decide (a.Props = b.Props)) := by
  intro hl
  exact loop_same (F := fun fu i => message_Same_l4 fu a.Props (a.Props.length : Int) i b) hl
   (fun fu => by rw [message_Same_l4, cond_f (lt_f (by omega))])
   (fun fu i h h' => by rw [message_Same_l4, cond_t (lt_t h), cond_t (inr h), cond_t (inr h'), getD_nat h, getD_nat h', w64_succ (by omega), cn_not, prop_beq]) (by omega)
 unfold message_Same
 obtain ⟨a1, a2, a3, a4, a5, a6, a7, a8, a9⟩ := a
 obtain ⟨b1, b2, b3, b4, b5, b6, b7, b8, b9⟩ := b
 simp only at hj ha ⊢
 simp only [api_Message.mk.injEq]
 by_cases hl : a9.length = b9.length
 ·rw [hj hl]
  simp only [cn_not, cn_bne, len_beq hl, cn_t, cn_eq, cn_merge]
 ·simp only [cn_not, cn_bne, len_bne hl, cn_f, cn_eq, cn_drop]
  symm
  simp; rintro - - - - - - - - rfl; exact hl rfl
theorem sameProps_eq (a b : List api_Prop) (ha : a.length < 1000000000000000) : brokerref05_SameProps a b = some (decide (a = b)) := by
 unfold brokerref05_SameProps
 by_cases hl : a.length = b.length
 ·rw [cn_bne, cond_t (len_beq hl)]
  exact loop_same (F := fun fu i => brokerref05_SameProps_l4 fu a b i) hl
   (fun fu => by rw [brokerref05_SameProps_l4, cond_f (lt_f (by omega))])
   (fun fu i h h' => by rw [brokerref05_SameProps_l4, cond_t (lt_t h), cond_t (inr h), cond_t (inr h'), getD_nat h, getD_nat h', w64_succ (by omega), cn_not, prop_beq]) (by omega)
 ·rw [cn_bne, cond_f (len_bne hl)]
  symm; simp; rintro rfl; exact hl rfl
theorem ref_Same_eq (a b : api_Message) (ha : a.Props.length < 1000000000000000) : brokerref05_Same a b = some (decide (a = b)) := by
 unfold brokerref05_Same
 obtain ⟨a1, a2, a3, a4, a5, a6, a7, a8, a9⟩ := a
 obtain ⟨b1, b2, b3, b4, b5, b6, b7, b8, b9⟩ := b
 simp only at ha ⊢
 simp only [api_Message.mk.injEq, sameProps_eq a9 b9 ha, cn_bindp, cn_eq, cn_merge]
/-! ### Checks -/
def keyB (s : Str) : Bool := rngB 1 16 s.length && s.all nameC
theorem nameC_dec (b : UInt8) : nameC b = decide ((97 ≤ b.toNat ∧ b.toNat ≤ 122) ∨ (48 ≤ b.toNat ∧ b.toNat ≤ 57) ∨ b.toNat = 45) := by
 rw [Bool.eq_iff_iff]; simp only [nameC, lowB, digB, Bool.or_eq_true, Bool.and_eq_true, decide_eq_true_eq, or_assoc]
theorem message_key_eq (s : Str) : message_key s = some (keyB s) := by
 unfold message_key keyB
 simp only [cn_sa]
 simp only [cn_not, cn_and, cn_or, cn_t, cn_f, cn_bne, cn_le, cn_ge, cn_gt, cn_bind, cn_bindc, cn_bindp, cn_same, cn_sd, cn_sn, cn_sa, cn_so, cn_se, rng_cond]
 cases hr : rngB 1 16 s.length
 ·rfl
 ·rw [rng_true] at hr
  rw [cn_t, cn_t]
  unfold message_key_j3
  refine loop_list (F := fun fu i => message_key_l4 fu s i) (g := fun r => some (r.all nameC)) (fun fu => by rw [message_key_l4, cond_f (lt_f (by omega))]; rfl) (fun fu i h ih => ?_) (by omega)
  rw [message_key_l4, cond_t (lt_t h), cond_t (inr h), getD_i h, w64_succ (by omega), ih, List.all_cons, cn_sa, nameC_dec]
  simp only [cn_not, cn_and, cn_or, cn_t, cn_f, cn_bne, cn_le, cn_ge, cn_gt, cn_bind, cn_bindc, cn_bindp, cn_same, cn_sd, cn_sn, cn_sa, cn_so, cn_se, cn_eq]
  simp only [Bool.cond_decide]; (repeat' split) <;> first | rfl | omega
theorem ref_key_eq (s : Str) : brokerref05_Key s = some (keyB s) := by
 unfold brokerref05_Key keyB
 simp only [cn_sa]
 simp only [cn_not, cn_and, cn_or, cn_t, cn_f, cn_bne, cn_le, cn_ge, cn_gt, cn_bind, cn_bindc, cn_bindp, cn_same, cn_sd, cn_sn, cn_sa, cn_so, cn_se, rng_cond]
 cases hr : rngB 1 16 s.length
 ·rfl
 ·rw [rng_true] at hr
  rw [cn_t, cn_t]
  unfold brokerref05_Key_j3
  refine loop_list (F := fun fu i => brokerref05_Key_l4 fu s i) (g := fun r => some (r.all nameC)) (fun fu => by rw [brokerref05_Key_l4, cond_f (lt_f (by omega))]; rfl) (fun fu i h ih => ?_) (by omega)
  rw [brokerref05_Key_l4, cond_t (lt_t h), cond_t (inr h), getD_i h, w64_succ (by omega), ih, List.all_cons, cn_sa, nameC_dec]
  simp only [cn_not, cn_and, cn_or, cn_t, cn_f, cn_bne, cn_le, cn_ge, cn_gt, cn_bind, cn_bindc, cn_bindp, cn_same, cn_sd, cn_sn, cn_sa, cn_so, cn_se, cn_eq]
  simp only [Bool.cond_decide]; (repeat' split) <;> first | rfl | omega
end Md
end PX
