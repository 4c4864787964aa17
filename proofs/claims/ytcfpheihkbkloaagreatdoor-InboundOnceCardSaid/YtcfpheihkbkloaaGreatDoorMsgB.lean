import Derived.Test.YtcfpheihkbkloaaGreatDoorMsgA
set_option linter.unusedVariables false
set_option linter.unusedSimpArgs false
/- Messages: properties, checks. -/
set_option linter.unusedVariables false
set_option linter.unusedSimpArgs false
namespace PX
open Go
namespace Md
theorem message_is_eq (x b : Int) : message_is x b = some (rngB 0 b x) := by
 unfold message_is rngB
 simp only [cn_sa, cn_sd]
def badK : Option Str → Str → Bool
 | none, _ => false
 | some k, s => Op.bytesLess s k || s == k
/-- The first error of properties after those with the key `k`. -/
def propsE : Option Str → List api_Prop → Int
 | _, [] => 0
 | k, x :: r => cond (keyB x.Key) (cond (decide (160 < x.Value.length)) 5 (cond (badK k x.Key) 16 (propsE (some x.Key) r))) 16
def propsB (l : List api_Prop) : Int := cond (decide (8 < l.length)) 5 (propsE none l)
theorem some_cond {α : Type} (b : Bool) (x y : α) : some (cond b x y) = cond b (some x) (some y) := by cases b <;> rfl
theorem message_Props_eq (l : List api_Prop) : message_Props l = some (propsB l) := by
 unfold message_Props propsB
 rw [some_cond]
 by_cases hl : l.length > 8
 ·rw [cond_t (by simp; omega), cond_t (by simp; omega)]
 ·rw [cond_f (by simp; omega), cond_f (by simp; omega)]
  have := loop_nat0 (n := l.length) (F := fun fu i (_ : Unit) => message_Props_l4 fu l l (l.length : Int) i) (G := fun i _ => some (propsE (if i = 0 then none else some (l.getD (i - 1) default).Key) (l.drop i))) (fun _ _ => True)
   (fun fu s _ => by rw [message_Props_l4, cond_f (lt_f (by omega)), List.drop_length]; rfl)
   (fun fu i s h _ ih => by
    have ih := ih () trivial
    rw [message_Props_l4, cond_t (lt_t h), cond_t (inr h), getD_nat h, bind_of (message_key_eq _), w64_succ (by omega), ih, List.drop_eq_getElem_cons h, propsE, if_neg (by omega)]
    simp only [some_cond, cn_not, cn_gt, Nat.add_sub_cancel]
    rw [getD_at h]
    congr 1
    have e : decide (160 < (l[i].Value.length : Int)) = decide (160 < l[i].Value.length) := by rw [Bool.eq_iff_iff]; simp; omega
    rw [e]
    congr 1
    by_cases hz : i = 0
    ·subst hz; rw [cond_f (by simp), if_pos rfl]; rfl
    ·have e2 : IntKind.wrap .i64 ((i : Int) - 1) = ((i - 1 : Nat) : Int) := by rw [w64 (by omega) (by omega)]; omega
     rw [cond_t (by simp; omega), e2, cond_t (inr (by omega)), Int.toNat_natCast, if_neg hz]; rfl)
   (by omega) () trivial
  simpa using this
theorem ref_Props_eq (l : List api_Prop) : brokerref05_Props l = some (propsB l) := by
 unfold brokerref05_Props propsB
 rw [some_cond]
 by_cases hl : l.length > 8
 ·rw [cond_t (by simp; omega), cond_t (by simp; omega)]
 ·rw [cond_f (by simp; omega), cond_f (by simp; omega)]
  have := loop_nat0 (n := l.length) (F := fun fu i (_ : Unit) => brokerref05_Props_l4 fu l i) (G := fun i _ => some (propsE (if i = 0 then none else some (l.getD (i - 1) default).Key) (l.drop i))) (fun _ _ => True)
   (fun fu s _ => by rw [brokerref05_Props_l4, cond_f (lt_f (by omega)), List.drop_length]; rfl)
   (fun fu i s h _ ih => by
    have ih := ih () trivial
    rw [brokerref05_Props_l4, cond_t (lt_t h), cond_t (inr h), getD_nat h, bind_of (ref_key_eq _), w64_succ (by omega), ih, List.drop_eq_getElem_cons h, propsE, if_neg (by omega)]
    simp only [some_cond, cn_not, cn_gt, Nat.add_sub_cancel]
    rw [getD_at h]
    congr 1
    have e : decide (160 < (l[i].Value.length : Int)) = decide (160 < l[i].Value.length) := by rw [Bool.eq_iff_iff]; simp; omega
    rw [e, cond_t (inr h)]
    congr 1
    by_cases hz : i = 0
    ·subst hz; rw [cond_f (by simp), if_pos rfl]; rfl
    ·have e2 : IntKind.wrap .i64 ((i : Int) - 1) = ((i - 1 : Nat) : Int) := by rw [w64 (by omega) (by omega)]; omega
     rw [cond_t (by simp; omega), cond_t (inr h), e2, cond_t (inr (by omega)), Int.toNat_natCast, if_neg hz]; rfl)
   (by omega) () trivial
  simpa using this
def checkM (m : api_Message) : Int := cond (validB m.Topic) (cond (decide (256 < (m.Payload.length : Int))) 5 (cond (rngB 0 2 m.Level) (cond (rngB 0 9 m.Priority) (cond (rngB 0 1099511627776 m.Expires)
 (cond (m.From == []) (cond (rngB 0 1099511627776 m.Seq) (propsB m.Props) 1) (cond (nameB m.From) (cond (rngB 0 1099511627776 m.Seq) (propsB m.Props) 1) 11)) 1) 1) 14)) 12
theorem message_Check_eq (m : api_Message) (hm : m.From.length < 1000000000000000) : message_Check m = some (checkM m) := by
 simp only [message_Check, checkM, some_cond, valid_eq, message_is_eq, name_eq _ hm, message_Props_eq, cn_not, cn_and, cn_or, cn_t, cn_f, cn_bne, cn_le, cn_ge, cn_gt, cn_bind, cn_bindc, cn_bindp, cn_same, cn_sd, cn_sn, cn_sa, cn_so, cn_se]
theorem ref_Check_eq (m : api_Message) (hm : m.From.length < 1000000000000000) : brokerref05_Check m = some (checkM m) := by
 simp only [brokerref05_Check, brokerref05_Check_j7, brokerref05_Check_j9, brokerref05_Check_j11, checkM, some_cond, ref_valid_eq, ref_name_eq _ hm, ref_Props_eq, cn_not, cn_and, cn_or, cn_t, cn_f, cn_bne, cn_le, cn_ge, cn_gt, cn_bind, cn_bindc, cn_bindp, cn_same, cn_sd, cn_sn, cn_sa, cn_so, cn_se, rng_cond]
end Md
end PX
