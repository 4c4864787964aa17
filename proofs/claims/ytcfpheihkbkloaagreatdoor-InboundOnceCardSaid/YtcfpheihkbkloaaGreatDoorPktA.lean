import Derived.Test.YtcfpheihkbkloaaGreatDoorMsgB
import Derived.Test.YtcfpheihkbkloaaGreatDoorGood
set_option linter.unusedVariables false
set_option linter.unusedSimpArgs false
/- Packets: equality, the fields a kind uses. -/
set_option linter.unusedVariables false
set_option linter.unusedSimpArgs false
namespace PX
open Go
namespace Md
theorem packet_is_eq (x a b : Int) : packet_is x a b = some (rngB a b x) := by
 unfold packet_is rngB
 simp only [cn_sa, cn_sd]
theorem wanted_eq (s : Str) (hs : okS s) : packet_wanted s = some (wantedB s, (sharedB s).isSome) := by
 have hs : s.length ≤ 140737488351232 := hs
 unfold packet_wanted wantedB
 rw [bind_of (shared_eq s (by omega)), sharedT_ok]
 cases (sharedB s).isSome
 ·rw [cond_f (by rfl), bind_of (filter_eq s)]
  cases filterB s
  ·rw [cond_f (by rfl)]; rfl
  ·rw [cond_t (by rfl), bind_of (hasPrefix_eq' _ _)]; rfl
 ·rw [cond_t (by rfl)]; rfl
theorem sub_beq (x y : api_Sub) : (x.Filter == y.Filter && (x.Level == y.Level && (x.NoLocal == y.NoLocal && true))) = decide (x = y) := by
 cases x; cases y; rw [Bool.eq_iff_iff]; simp
theorem subs_eq (a b : List api_Sub) (ha : okL api_Sub.good a) : packet_subs a b = some (decide (a = b)) := by
 have ha := ha.1
 unfold packet_subs
 by_cases hl : a.length = b.length
 ·rw [cn_bne, cond_t (len_beq hl)]
  exact loop_same (F := fun fu i => packet_subs_l4 fu b a (a.length : Int) i) hl
   (fun fu => by rw [packet_subs_l4, cond_f (lt_f (by omega))])
   (fun fu i h h' => by rw [packet_subs_l4, cond_t (lt_t h), cond_t (inr h), cond_t (inr h'), getD_nat h, getD_nat h', w64_succ (by omega), cn_not, sub_beq]) (by omega)
 ·rw [cn_bne, cond_f (len_bne hl)]; symm; simp; rintro rfl; exact hl rfl
theorem texts_eq (a b : List Str) (ha : okL okS a) : packet_texts a b = some (decide (a = b)) := by
 have ha := ha.1
 unfold packet_texts
 by_cases hl : a.length = b.length
 ·rw [cn_bne, cond_t (len_beq hl)]
  exact loop_same (F := fun fu i => packet_texts_l4 fu b a (a.length : Int) i) hl
   (fun fu => by rw [packet_texts_l4, cond_f (lt_f (by omega))])
   (fun fu i h h' => by rw [packet_texts_l4, cond_t (lt_t h), cond_t (inr h), cond_t (inr h'), getD_nat h, getD_nat h', w64_succ (by omega), cn_not, cn_eq]) (by omega)
 ·rw [cn_bne, cond_f (len_bne hl)]; symm; simp; rintro rfl; exact hl rfl
theorem numbers_eq (a b : List Int) (ha : okL (okI .i64) a) : packet_numbers a b = some (decide (a = b)) := by
 have ha := ha.1
 unfold packet_numbers
 by_cases hl : a.length = b.length
 ·rw [cn_bne, cond_t (len_beq hl)]
  exact loop_same (F := fun fu i => packet_numbers_l4 fu b a (a.length : Int) i) hl
   (fun fu => by rw [packet_numbers_l4, cond_f (lt_f (by omega))])
   (fun fu i h h' => by rw [packet_numbers_l4, cond_t (lt_t h), cond_t (inr h), cond_t (inr h'), getD_nat h, getD_nat h', w64_succ (by omega), cn_bne, cn_eq]) (by omega)
 ·rw [cn_bne, cond_f (len_bne hl)]; symm; simp; rintro rfl; exact hl rfl
theorem ref_subs_eq (a b : List api_Sub) (ha : okL api_Sub.good a) : brokerref06_SameSubs a b = some (decide (a = b)) := by
 have ha := ha.1
 unfold brokerref06_SameSubs
 by_cases hl : a.length = b.length
 ·rw [cn_bne, cond_t (len_beq hl)]
  exact loop_same (F := fun fu i => brokerref06_SameSubs_l4 fu a b i) hl
   (fun fu => by rw [brokerref06_SameSubs_l4, cond_f (lt_f (by omega))])
   (fun fu i h h' => by rw [brokerref06_SameSubs_l4, cond_t (lt_t h), cond_t (inr h), cond_t (inr h'), getD_nat h, getD_nat h', w64_succ (by omega), cn_not, sub_beq]) (by omega)
 ·rw [cn_bne, cond_f (len_bne hl)]; symm; simp; rintro rfl; exact hl rfl
theorem ref_texts_eq (a b : List Str) (ha : okL okS a) : brokerref01_Same a b = some (decide (a = b)) := by
 have ha := ha.1
 unfold brokerref01_Same
 by_cases hl : a.length = b.length
 ·rw [cn_bne, cond_t (len_beq hl)]
  exact loop_same (F := fun fu i => brokerref01_Same_l4 fu a b i) hl
   (fun fu => by rw [brokerref01_Same_l4, cond_f (lt_f (by omega))])
   (fun fu i h h' => by rw [brokerref01_Same_l4, cond_t (lt_t h), cond_t (inr h), cond_t (inr h'), getD_nat h, getD_nat h', w64_succ (by omega), cn_not, cn_eq]) (by omega)
 ·rw [cn_bne, cond_f (len_bne hl)]; symm; simp; rintro rfl; exact hl rfl
theorem ref_numbers_eq (a b : List Int) (ha : okL (okI .i64) a) : brokerref06_SameNumbers a b = some (decide (a = b)) := by
 have ha := ha.1
 unfold brokerref06_SameNumbers
 by_cases hl : a.length = b.length
 ·rw [cn_bne, cond_t (len_beq hl)]
  exact loop_same (F := fun fu i => brokerref06_SameNumbers_l4 fu a b i) hl
   (fun fu => by rw [brokerref06_SameNumbers_l4, cond_f (lt_f (by omega))])
   (fun fu i h h' => by rw [brokerref06_SameNumbers_l4, cond_t (lt_t h), cond_t (inr h), cond_t (inr h'), getD_nat h, getD_nat h', w64_succ (by omega), cn_bne, cn_eq]) (by omega)
 ·rw [cn_bne, cond_f (len_bne hl)]; symm; simp; rintro rfl; exact hl rfl
theorem cn_aT (b : Bool) : (b && true) = b := by cases b <;> rfl
theorem dec_and (p q : Prop) [Decidable p] [Decidable q] : (decide p && decide q) = decide (p ∧ q) := by
 by_cases h : p <;> by_cases h' : q <;> simp [h, h']
theorem packet_Same_eq (p q : api_Packet) (h : p.good) : packet_Same p q = some (decide (p = q)) := by
 obtain ⟨_, _, hm, _, _, _, _, _, hw, _, h1, h2, h3⟩ := h
 have hm2 := hm.2.2.2.2.2.2.2.1
 have hw2 := hw.2.2.2.2.2.2.2.2.1
 unfold packet_Same packet_plainOf
 simp only [cn_bind, message_Same_eq p.Message q.Message (by omega), message_Same_eq p.Will.Message q.Will.Message (by omega), subs_eq _ _ h1, texts_eq _ _ h2, numbers_eq _ _ h3, cn_aT, cn_eq, dec_and, cn_merge]
 congr 1
 rw [Bool.eq_iff_iff]
 simp only [decide_eq_true_eq]
 obtain ⟨a1, a2, a3, a4, a5, a6, a7, a8, a9, a10, ⟨a11, a12, a13⟩, a14, a15, a16, a17, a18⟩ := p
 obtain ⟨b1, b2, b3, b4, b5, b6, b7, b8, b9, b10, ⟨b11, b12, b13⟩, b14, b15, b16, b17, b18⟩ := q
 simp only [api_Packet.mk.injEq, api_Will.mk.injEq]
 constructor
 ·rintro ⟨⟨c1, c2, c3, c4, c5, c6, c7, c8, c9, c10, c11, c12, c13⟩, c14, c15, c16, c17, c18⟩
  exact ⟨c1, c2, c8, c14, c12, c13, c9, c3, c4, c5, ⟨c11, c7, c15⟩, c10, c6, c16, c17, c18⟩
 ·rintro ⟨c1, c2, c8, c14, c12, c13, c9, c3, c4, c5, ⟨c11, c7, c15⟩, c10, c6, c16, c17, c18⟩
  exact ⟨⟨c1, c2, c3, c4, c5, c6, c7, c8, c9, c10, c11, c12, c13⟩, c14, c15, c16, c17, c18⟩
theorem ref_PSame_eq (p q : api_Packet) (h : p.good) : brokerref06_Same p q = some (decide (p = q)) := by
 obtain ⟨_, _, hm, _, _, _, _, _, hw, _, h1, h2, h3⟩ := h
 have hm2 := hm.2.2.2.2.2.2.2.1
 have hw2 := hw.2.2.2.2.2.2.2.2.1
 unfold brokerref06_Same brokerref06_Same_j3 brokerref06_Same_j5 brokerref06_SameWill
 simp only [cn_bind, cn_bne, cn_not, cn_bindp, ref_Same_eq p.Message q.Message (by omega), ref_Same_eq p.Will.Message q.Will.Message (by omega), ref_subs_eq _ _ h1, ref_texts_eq _ _ h2, ref_numbers_eq _ _ h3, cn_eq, cn_merge]
 congr 1
 rw [Bool.eq_iff_iff]
 simp only [decide_eq_true_eq]
 obtain ⟨a1, a2, a3, a4, a5, a6, a7, a8, a9, a10, ⟨a11, a12, a13⟩, a14, a15, a16, a17, a18⟩ := p
 obtain ⟨b1, b2, b3, b4, b5, b6, b7, b8, b9, b10, ⟨b11, b12, b13⟩, b14, b15, b16, b17, b18⟩ := q
 simp only [api_Packet.mk.injEq, api_Will.mk.injEq, and_assoc]
/-- The packet with the fields that its kind uses. -/
def usedP (p : api_Packet) : api_Packet := (packet_used p).getD default
theorem used_eq (p : api_Packet) : packet_used p = some (usedP p) := by
 unfold usedP packet_used
 simp only [← some_cond]; rfl
end Md
end PX
