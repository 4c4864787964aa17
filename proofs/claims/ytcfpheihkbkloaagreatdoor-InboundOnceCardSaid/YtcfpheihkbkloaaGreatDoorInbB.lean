import Derived.Test.YtcfpheihkbkloaaGreatDoorInbA
set_option linter.unusedVariables false
set_option linter.unusedSimpArgs false
/- The inbox: accepting. -/
set_option linter.unusedVariables false
set_option linter.unusedSimpArgs false
namespace PX
open Go
namespace Md
theorem with_eq (l : List Int) (x : Int) (hl : l.length ≤ 1000) : brokerref15_with l x = some (withI l x) := by
 unfold brokerref15_with
 have fin : ∀ (i : Nat) (w : List Int), i ≤ l.length → w.length ≤ i → brokerref15_with_j6 l x (i : Int) w = some (w ++ [x] ++ l.drop i) := fun i w hi hw => by
  rw [brokerref15_with_j6, cond_t (by simp; omega), cond_t (by simp; omega), cond_t (by simp [cutL]; omega)]
  simp [cutL]
 have := loop_lists (l := l) (F := fun fu i (w : List Int) => brokerref15_with_l3 fu l x i w) (g := fun r w => some (w ++ (r.takeWhile fun y => decide (y < x)) ++ [x] ++ r.dropWhile fun y => decide (y < x))) (fun i w => w.length ≤ i)
  (fun fu s hs => by rw [brokerref15_with_l3, cond_f (by simp), fin _ _ (Nat.le_refl _) hs]; simp)
  (fun fu i s hi hp ih => by
   rw [brokerref15_with_l3, cond_t (lt_t hi), cond_t (inr hi), getD_nat hi]
   by_cases e : l[i] < x
   ·rw [cond_t (by simpa using e), brokerref15_with_j4, cond_t (inr hi), getD_nat hi, cond_t (by simp; omega), w64_succ (by omega), ih _ (by simp; omega)]
    simp [List.takeWhile, List.dropWhile, e]
   ·rw [cond_f (by simpa using e), fin _ _ (by omega) hp, List.drop_eq_getElem_cons hi]
    simp [List.takeWhile, List.dropWhile, e]) (by omega) [] (Nat.le_refl _)
 simpa [withI] using this
theorem insert_eq {l : List Int} (x : Int) (h : ascB 0 l = true) (hl : l.length ≤ 1000) : inbound_insert_int_ l x = some (cond (l.contains x) l (withI l x)) := by
 unfold inbound_insert_int_ slices_Insert___int_int_
 rw [search_eq x (asc_pair h) (by omega), clone_eq (by omega)]
 simp only [cn_bind]
 cases l.contains x with
 | true => rfl
 | false =>
  have hc := cutI_le l x
  simp only [cn_f]
  unfold insM
  rw [cond_t (by simp; omega), cn_bind]
  unfold withI
  rw [← cutI_take, ← cutI_drop]
  rfl
theorem with_len (l : List Int) (x : Int) : (withI l x).length = l.length + 1 := by
 have := congrArg List.length (List.takeWhile_append_dropWhile (p := fun y => decide (y < x)) (l := l))
 simp only [withI, List.length_append, List.length_cons, List.length_nil] at this ⊢
 omega
theorem with_mem (l : List Int) (x y : Int) : y ∈ withI l x ↔ y = x ∨ y ∈ l := by
 have h : y ∈ l ↔ y ∈ (l.takeWhile fun y => decide (y < x)) ∨ y ∈ l.dropWhile fun y => decide (y < x) := by
  rw [← List.mem_append, List.takeWhile_append_dropWhile]
 rw [h]
 simp only [withI, List.mem_append, List.mem_singleton]
 constructor
 ·rintro ((h | h) | h)
  ·exact .inr (.inl h)
  ·exact .inl h
  ·exact .inr (.inr h)
 ·rintro (h | h | h)
  ·exact .inl (.inr h)
  ·exact .inl (.inl h)
  ·exact .inr h
theorem asc_with {x : Int} : ∀ {l : List Int} {a : Int}, ascB a l = true → a < x → x ≤ 65535 → x ∉ l → ascB a (withI l x) = true
 | [], a, _, h1, h2, _ => asc_cons.2 ⟨h1, h2, rfl⟩
 | y :: r, a, h, h1, h2, hn => by
  obtain ⟨q1, q2, q3⟩ := asc_cons.1 h
  have hne : x ≠ y := fun e => hn (by simp [e])
  by_cases e : y < x
  ·have : withI (y :: r) x = y :: withI r x := by simp [withI, List.takeWhile, List.dropWhile, e]
   rw [this]
   exact asc_cons.2 ⟨q1, q2, asc_with q3 e h2 (fun hm => hn (by simp [hm]))⟩
  ·have : withI (y :: r) x = x :: y :: r := by simp [withI, List.takeWhile, List.dropWhile, e]
   rw [this]
   exact asc_cons.2 ⟨h1, h2, asc_cons.2 ⟨by omega, q2, q3⟩⟩
/-- What is known of a valid Publish packet. -/
theorem pub_facts {p : api_Packet} (h : checkP p = 0) (hk : p.Kind = 3) : (p.Message.Level = 0 ∨ p.Message.Level = 1 ∨ p.Message.Level = 2) ∧ (p.Message.Level ≠ 0 → 1 ≤ p.ID ∧ p.ID ≤ 65535) := by
 unfold checkP at h
 rw [hk, cond_t (by decide)] at h
 cases hu : decide (p = usedP p) with
 | false => rw [hu] at h; cases h
 | true =>
  rw [hu, cn_t] at h
  unfold bodyE at h
  rw [hk] at h
  have h : publishE p = 0 := h
  unfold publishE at h
  cases hm : (checkM p.Message == 0) with
  | false => rw [hm, cn_f] at h; rw [h] at hm; cases hm
  | true =>
   rw [hm, cn_t] at h
   have hm : checkM p.Message = 0 := by simpa using hm
   have hl : rngB 0 2 p.Message.Level = true := by
    unfold checkM at hm
    cases h1 : validB p.Message.Topic <;> rw [h1] at hm <;> simp only [cn_t, cn_f] at hm <;> try (cases hm; done)
    cases h2 : decide (256 < (p.Message.Payload.length : Int)) <;> rw [h2] at hm <;> simp only [cn_t, cn_f] at hm <;> try (cases hm; done)
    cases h3 : rngB 0 2 p.Message.Level
    ·rw [h3] at hm; cases hm
    ·rfl
   have hl := rng_true.1 hl
   refine ⟨by omega, fun hz => ?_⟩
   rw [cond_f (by simpa using hz)] at h
   unfold identE at h
   cases hi : rngB 1 65535 p.ID with
   | false => rw [hi] at h; cases h
   | true => exact rng_true.1 hi
def accP (l : List Int) (p : api_Packet) : api_Inbox × Bool × List api_Packet × Int :=
 cond (p.Kind == 3) (cond (checkP p == 0) (cond (p.Message.Level == 0) (api_Inbox.mk l, true, [], 0) (cond (p.Message.Level == 1) (api_Inbox.mk l, true, [kindP 4 p.ID], 0)
  (cond (l.contains p.ID) (api_Inbox.mk l, false, [kindP 5 p.ID], 0) (cond (decide ((l.length : Int) ≥ 32)) (zeroB, false, [], 6) (api_Inbox.mk (withI l p.ID), true, [kindP 5 p.ID], 0))))) (zeroB, false, [], checkP p)) (zeroB, false, [], 10)
theorem accept_eq (b : api_Inbox) (p : api_Packet) (h : p.good) (ha : ascB 0 b.IDs = true) (hl : b.IDs.length ≤ 1000) : inbound_Accept b p = some (accP b.IDs p) := by
 unfold inbound_Accept accP
 by_cases hk : p.Kind = 3
 ·have e : (p.Kind == 3) = true := by simpa using hk
  rw [cn_bne, e, packet_Check_eq _ h]
  simp only [cn_t, cn_bind, cn_bne]
  by_cases hc : checkP p = 0
  ·have e2 : (checkP p == 0) = true := by simpa using hc
   rw [e2]
   simp only [cn_t]
   obtain ⟨hlev, _⟩ := pub_facts hc hk
   have hans : answerP p = cond (p.Message.Level == 1) (kindP 4 p.ID, true) (cond (p.Message.Level == 2) (kindP 5 p.ID, true) (kindP 0 0, false)) := by
    unfold answerP answerK
    rw [hk]
    cases p.Message.Level == 1 <;> cases p.Message.Level == 2 <;> rfl
   unfold inbound_Accept_j7 inbound_Accept_j9 inbound_Accept_j12
   rw [clone_eq (by omega), insert_eq _ ha hl, answer_eq, hans, inbound_Has_eq _ _ ha hl]
   rcases hlev with hv | hv | hv <;> rw [hv]
   ·rfl
   ·rfl
   ·cases hh : b.IDs.contains p.ID with
    | true => rfl
    | false =>
     cases hf : decide ((b.IDs.length : Int) ≥ 32) with
     | true => simp [cn_bind]
     | false => simp [cn_bind]
  ·have e2 : (checkP p == 0) = false := by simpa using hc
   rw [e2]; rfl
 ·have e : (p.Kind == 3) = false := by simpa using hk
  rw [cn_bne, e]; rfl
theorem ref15_Accept_eq (b : api_Inbox) (p : api_Packet) (h : p.good) (hl : b.IDs.length ≤ 1000) : brokerref15_Accept b p = some (accP b.IDs p) := by
 unfold brokerref15_Accept accP brokerref15_answer
 rw [ref_PCheck_eq _ h]
 simp only [cn_bind, cn_bne, ref15_Has_eq _ _ (show b.IDs.length < 100000000000000000 by omega), with_eq _ _ hl, some_cond]
 rfl
theorem packets_self (l : List api_Packet) (h : ∀ p ∈ l, p.good) (hl : l.length ≤ 1000) : brokerlaw15_packets l l = some true := by
 unfold brokerlaw15_packets
 rw [cond_f (by simp)]
 refine loop_list (l := l) (F := fun fu i => brokerlaw15_packets_l4 fu l l i) (g := fun _ => some true) (fun fu => ?_) (fun fu i hi ih => ?_) (by omega)
 ·rw [brokerlaw15_packets_l4, cond_f (by simp)]
 ·rw [brokerlaw15_packets_l4, cond_t (lt_t hi)]
  simp only [cond_t (inr hi), getD_nat hi, ref_PSame_eq _ _ (h _ (List.getElem_mem hi)), decide_true, cn_bind, Bool.not_true, cn_f]
  rw [w64_succ (by omega), ih]
theorem acc_packets (l : List Int) (p : api_Packet) (h : p.good) : brokerlaw15_packets (accP l p).2.2.1 (accP l p).2.2.1 = some true := by
 have key : (∀ q ∈ (accP l p).2.2.1, q.good) ∧ (accP l p).2.2.1.length ≤ 1000 := by
  have k4 : (kindP 4 p.ID).good := kind_good (okI_lit (by decide) (by decide)) h.2.1
  have k5 : (kindP 5 p.ID).good := kind_good (okI_lit (by decide) (by decide)) h.2.1
  have n : (∀ q ∈ ([] : List api_Packet), q.good) ∧ ([] : List api_Packet).length ≤ 1000 := ⟨by simp, by simp⟩
  have o : ∀ x : api_Packet, x.good → (∀ q ∈ [x], q.good) ∧ [x].length ≤ 1000 := fun x hx => ⟨by simpa using hx, by simp⟩
  unfold accP
  cases p.Kind == 3 <;> simp only [cn_t, cn_f] <;> try exact n
  cases checkP p == 0 <;> simp only [cn_t, cn_f] <;> try exact n
  cases p.Message.Level == 0 <;> simp only [cn_t, cn_f] <;> try exact n
  cases p.Message.Level == 1 <;> simp only [cn_t, cn_f]
  ·cases l.contains p.ID <;> simp only [cn_t, cn_f]
   ·cases decide ((l.length : Int) ≥ 32) <;> simp only [cn_t, cn_f]
    ·exact o _ k5
    ·exact n
   ·exact o _ k5
  ·exact o _ k4
 exact packets_self _ key.1 key.2
/-- A valid inbox. -/
def okB15 (l : List Int) : Prop := ascB 0 l = true ∧ l.length ≤ 32
theorem okB_check {l : List Int} (h : okB15 l) : checkI l = 0 := by
 unfold checkI
 rw [cond_f (by have := h.2; simp; omega), h.1]; rfl
theorem acc_ok (l : List Int) (p : api_Packet) (h : okB15 l) : okB15 (accP l p).1.IDs := by
 have z : okB15 [] := ⟨rfl, by simp⟩
 unfold accP
 by_cases hk : p.Kind = 3
 ·by_cases hc : checkP p = 0
  ·obtain ⟨hlev, hid⟩ := pub_facts hc hk
   rw [cond_t (by simpa using hk), cond_t (by simpa using hc)]
   by_cases h0 : p.Message.Level = 0
   ·rw [cond_t (by simpa using h0)]; exact h
   ·rw [cond_f (by simpa using h0)]
    cases p.Message.Level == 1 <;> simp only [cn_t, cn_f]
    ·cases hh : l.contains p.ID <;> simp only [cn_t, cn_f]
     ·by_cases hf : (l.length : Int) ≥ 32
      ·rw [cond_t (by simpa using hf)]; exact z
      ·rw [cond_f (by simpa using hf)]
       refine ⟨asc_with h.1 (by have := hid h0; omega) (hid h0).2 (fun hm => ?_), ?_⟩
       ·rw [← List.contains_iff_mem, hh] at hm; cases hm
       ·show (withI l p.ID).length ≤ 32
        rw [with_len]; omega
     ·exact h
    ·exact h
  ·rw [cond_t (by simpa using hk), cond_f (by simpa using hc)]; exact z
 ·rw [cond_f (by simpa using hk)]; exact z
theorem rel_ok (l : List Int) (p : api_Packet) (h : okB15 l) : okB15 (relP l p).1.IDs := ⟨rel_asc _ _ h.1, by have := rel_len l p; have := h.2; omega⟩
def stepP (b : api_Inbox) (p : api_Packet) : api_Inbox × Bool × Bool :=
 cond (p.Kind == 6) (cond ((relP b.IDs p).2.2 == 0) ((relP b.IDs p).1, false, true) (b, false, true)) (cond ((accP b.IDs p).2.2.2 == 0) ((accP b.IDs p).1, (accP b.IDs p).2.1, true) (b, false, true))
theorem step15_eq (b : api_Inbox) (p : api_Packet) (h : p.good) (hb : okB15 b.IDs) : brokerlaw15_step b p = some (stepP b p) := by
 have hl := hb.2
 have h1 := rel_len b.IDs p
 have h2 := (acc_ok b.IDs p hb).2
 unfold brokerlaw15_step stepP
 rw [release_eq _ _ hb.1 (by omega), ref15_Release_eq _ _ (by omega), accept_eq _ _ h hb.1 (by omega), ref15_Accept_eq _ _ h (by omega)]
 simp only [cn_bind, beq_self_eq_true, cn_t, cn_bne, ref15_Same_eq _ _ (show (relP b.IDs p).1.IDs.length ≤ 1000 by omega), ref15_Same_eq _ _ (show (accP b.IDs p).1.IDs.length ≤ 1000 by omega), decide_true, ref_PSame_eq _ _ (rel_good b.IDs p h), acc_packets b.IDs p h, some_cond]
theorem step15_ok (b : api_Inbox) (p : api_Packet) (hb : okB15 b.IDs) : okB15 (stepP b p).1.IDs ∧ (stepP b p).2.2 = true := by
 have h1 := acc_ok b.IDs p hb
 have h2 := rel_ok b.IDs p hb
 unfold stepP
 cases p.Kind == 6 <;> simp only [cn_t, cn_f]
 ·cases (accP b.IDs p).2.2.2 == 0 <;> simp only [cn_t, cn_f]
  ·exact ⟨hb, trivial⟩
  ·exact ⟨h1, trivial⟩
 ·cases (relP b.IDs p).2.2 == 0 <;> simp only [cn_t, cn_f]
  ·exact ⟨hb, trivial⟩
  ·exact ⟨h2, trivial⟩
end Md
end PX
