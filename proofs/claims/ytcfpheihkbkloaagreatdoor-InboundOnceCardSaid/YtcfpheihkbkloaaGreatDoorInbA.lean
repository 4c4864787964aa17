import Derived.Test.YtcfpheihkbkloaaGreatDoorInts
import Derived.Test.YtcfpheihkbkloaaGreatDoorPktC
import Derived.KernelRfl
set_option linter.unusedVariables false
set_option linter.unusedSimpArgs false
/- The inbox. -/
set_option linter.unusedVariables false
set_option linter.unusedSimpArgs false
namespace PX
open Go
namespace Md
theorem awake15 : brokerlaw15_awake = some true := by kernel_rfl
theorem inbound_Has_eq (p : api_Inbox) (x : Int) (h : ascB 0 p.IDs = true) (hl : p.IDs.length ≤ 1000) : inbound_Has p x = some (p.IDs.contains x) := by
 unfold inbound_Has
 rw [search_eq x (asc_pair h) (by omega)]; rfl
theorem ref15_Has_eq (p : api_Inbox) (x : Int) (hl : p.IDs.length < 100000000000000000) : brokerref15_Has p x = some (p.IDs.contains x) := by
 unfold brokerref15_Has
 rw [ref13_Has_eq _ _ hl]; rfl
theorem ref15_Check_eq (p : api_Inbox) (h : p.good) : brokerref15_Check p = some (checkI p.IDs) := by
 have hl := h.1
 unfold brokerref15_Check
 rw [ref13_Check_eq _ (by show p.IDs.length < _; omega) rfl]; rfl
theorem ref15_Same_eq (p q : api_Inbox) (hl : p.IDs.length ≤ 1000) : brokerref15_Same p q = some (decide (p.IDs = q.IDs)) := by
 unfold brokerref15_Same
 rw [ref13_Ints_eq _ _ (by omega)]; rfl
theorem asc_filter {f : Int → Bool} : ∀ {l : List Int} {a : Int}, ascB a l = true → ascB a (l.filter f) = true
 | [], _, _ => rfl
 | y :: r, a, h => by
  obtain ⟨h1, h2, h3⟩ := asc_cons.1 h
  have low : ∀ (l : List Int) (a b : Int), a ≤ b → ascB b l = true → ascB a l = true := fun l a b hab h => by
   cases l with
   | nil => rfl
   | cons z l => obtain ⟨q1, q2, q3⟩ := asc_cons.1 h; exact asc_cons.2 ⟨by omega, q2, q3⟩
  cases hf : f y with
  | true => rw [List.filter_cons_of_pos hf]; exact asc_cons.2 ⟨h1, h2, asc_filter h3⟩
  | false => rw [List.filter_cons_of_neg (by simp [hf])]; exact low _ _ _ (by omega) (asc_filter h3)
def delI (l : List Int) (x : Int) : List Int := l.filter fun y => y != x
theorem without_eq {l : List Int} (x : Int) (h : ascB 0 l = true) (hl : l.length ≤ 1000) : inbound_without_int_ l x = some (delI l x) := by
 unfold inbound_without_int_ slices_Delete___int_int_ delI
 rw [clone_eq (by omega)]
 simp only [cn_bind, search_eq x (asc_pair h) (by omega)]
 have hc := cutI_le l x
 cases hh : l.contains x with
 | false => rw [cn_f, filter_self hh]
 | true =>
  have hlt : cutI l x < l.length := by
   have e := congrArg List.length (asc_erase h hh)
   rcases Nat.lt_or_ge (cutI l x) l.length with h' | h'
   ·exact h'
   ·have : cutI l x = l.length := by omega
    have e2 := congrArg List.length (asc_erase h hh)
    rw [this] at e2
    have hm : x ∈ l := by simpa using hh
    have : (l.filter fun y => y != x).length < l.length := by
     rcases Nat.lt_or_ge (l.filter fun y => y != x).length l.length with q | q
     ·exact q
     ·have := List.filter_eq_self.1 (List.Sublist.eq_of_length_le List.filter_sublist q) x hm
      simp at this
    simp at e2
    omega
  rw [cn_t, w64_succ (by omega)]
  unfold delM
  rw [cond_t (by simp; omega), cn_bind, ← asc_erase h hh]
  rfl
abbrev zeroB : api_Inbox := api_Inbox.mk ([] : List Int)
def relP (l : List Int) (p : api_Packet) : api_Inbox × api_Packet × Int :=
 cond (p.Kind != 6) (zeroB, kindP 0 0, 10) (cond (decide (p.ID < 1)) (zeroB, kindP 0 0, 15) (cond (decide (p.ID > 65535)) (zeroB, kindP 0 0, 15) (api_Inbox.mk (delI l p.ID), kindP 7 p.ID, 0)))
theorem release_eq (b : api_Inbox) (p : api_Packet) (h : ascB 0 b.IDs = true) (hl : b.IDs.length ≤ 1000) : inbound_Release b p = some (relP b.IDs p) := by
 unfold inbound_Release inbound_Release_j5 relP
 rw [without_eq _ h hl]
 simp only [cn_bind, some_cond]
 rfl
theorem ref15_Release_eq (b : api_Inbox) (p : api_Packet) (hl : b.IDs.length ≤ 1000) : brokerref15_Release b p = some (relP b.IDs p) := by
 unfold brokerref15_Release brokerref15_Release_j5 relP
 rw [ref13_Free_eq _ _ (by show b.IDs.length * 8 < _; omega)]
 simp only [cn_bind, some_cond]
 rfl
theorem delI_len (l : List Int) (x : Int) : (delI l x).length ≤ l.length := List.length_filter_le _ _
theorem delI_twice (l : List Int) (x : Int) : delI (delI l x) x = delI l x := by
 unfold delI
 rw [List.filter_filter]
 congr 1
 funext y
 cases y != x <;> rfl
theorem rel_good (l : List Int) (p : api_Packet) (h : p.good) : (relP l p).2.1.good := by
 have z : okI .i64 0 := okI_lit (by decide) (by decide)
 unfold relP
 cases p.Kind != 6 <;> simp only [cn_t, cn_f]
 ·cases decide (p.ID < 1) <;> simp only [cn_t, cn_f]
  ·cases decide (p.ID > 65535) <;> simp only [cn_t, cn_f]
   ·exact kind_good (okI_lit (by decide) (by decide)) h.2.1
   ·exact kind_good z z
  ·exact kind_good z z
 ·exact kind_good z z
theorem rel_len (l : List Int) (p : api_Packet) : (relP l p).1.IDs.length ≤ l.length := by
 unfold relP
 cases p.Kind != 6 <;> simp only [cn_t, cn_f] <;> try exact Nat.zero_le _
 cases decide (p.ID < 1) <;> simp only [cn_t, cn_f] <;> try exact Nat.zero_le _
 cases decide (p.ID > 65535) <;> simp only [cn_t, cn_f] <;> try exact Nat.zero_le _
 exact delI_len _ _
theorem rel_asc (l : List Int) (p : api_Packet) (h : ascB 0 l = true) : ascB 0 (relP l p).1.IDs = true := by
 unfold relP
 cases p.Kind != 6 <;> simp only [cn_t, cn_f] <;> try rfl
 cases decide (p.ID < 1) <;> simp only [cn_t, cn_f] <;> try rfl
 cases decide (p.ID > 65535) <;> simp only [cn_t, cn_f] <;> try rfl
 exact asc_filter h
theorem rel_twice (l : List Int) (p : api_Packet) (h : (relP l p).2.2 = 0) : relP (relP l p).1.IDs p = relP l p := by
 revert h
 unfold relP
 cases p.Kind != 6 <;> simp only [cn_t, cn_f]
 ·cases decide (p.ID < 1) <;> simp only [cn_t, cn_f]
  ·cases decide (p.ID > 65535) <;> simp only [cn_t, cn_f]
   ·intro _; rw [delI_twice]
   ·intro h; cases h
  ·intro h; cases h
 ·intro h; cases h
end Md
end PX
