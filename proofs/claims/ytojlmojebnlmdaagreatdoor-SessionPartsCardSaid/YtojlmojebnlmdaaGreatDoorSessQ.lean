import Derived.Test.YtojlmojebnlmdaaGreatDoorSessN
set_option linter.unusedVariables false
set_option linter.unusedSimpArgs false
namespace PX
open Go
namespace Md
structure yO (s : aB) (r : aB) (L : List (Int × aA)) : Prop where
 sub : (L.map (·.2.Seq) ++ r.Queue.map (·.Seq)).Sublist (s.Queue.map (·.Seq))
 num : r.Dropped + (L.length : Int) + (r.Queue.length : Int) = s.Dropped + (s.Queue.length : Int)
 out : r.Out.Items.length ≤ s.Out.Items.length + L.length
def pT (L : List (Int × aA)) : List aC := L.map fun p => yY p.1 false p.2
theorem aoY {s : aB} (h : SOK s) {n : Int} (h0 : 0 ≤ n) (h1 : s.Dropped + n ≤ 1099511627776) : (nV s n).Dropped = s.Dropped + n := by
 have a := (lW.1 h.head).2.2.2.2.2
 have e : IntKind.wrap .i64 (s.Dropped + n) = s.Dropped + n := by rw [IntKind.wrap_i64]; omega
 show (if 1099511627776 < IntKind.wrap .i64 (s.Dropped + n) then 1099511627776 else IntKind.wrap .i64 (s.Dropped + n)) = _
 rw [e, if_neg (by omega)]
theorem aqJ (now : Int) : ∀ (q : List aA) (s z : aB) (acc : List aC) (fu : Nat), s.Queue = q → q.length < fu → SOK s → acc.length + q.length ≤ 2000 → s.Dropped + q.length ≤ 1099511627776 →
  ∃ r L, eE fu now s z acc = some (r, acc ++ pT L) ∧ yO s r L := by
 intro q
 induction q with
 | nil =>
  intro s z acc fu hq h1 hs hl hd
  obtain ⟨fu, rfl⟩ : ∃ n, fu = n + 1 := ⟨fu - 1, by omega⟩
  refine ⟨s, [], ?_, ⟨by simp, by simp, by simp⟩⟩
  rw [eE, hq]; simp [pT]
 | cons m t ih =>
  intro s z acc fu hq h1 hs hl hd
  obtain ⟨fu, rfl⟩ : ∃ n, fu = n + 1 := ⟨fu - 1, by omega⟩
  simp only [List.length_cons] at h1 hl hd
  have hql := hs.qlen
  rw [hq] at hql
  simp only [List.length_cons] at hql
  have hm : okT m := hs.q m (by rw [hq]; simp)
  have ht : ∀ x ∈ t, okT x := fun x hx => hs.q x (by rw [hq]; simp [hx])
  have hp := l5 hm.1
  have hc : bQ (m :: t) (some 1) none = t := by simp [bQ]
  have hc0 : (decide (((m :: t).length : Int) > 0)) = true := by simp
  have hc1 : decide (0 ≤ 0) = true := rfl
  have hc2 : decide (0 ≤ 1) = true := rfl
  have hc3 : decide ((1 : Int) ≤ ((m :: t).length : Int)) = true := by simp; omega
  have hg : List.getD (m :: t) (Int.toNat 0) default = m := rfl
  rw [eE, hq, hg, agw]
  simp only [hc0, hc1, hc2, hc3, Bool.and_self, cA, bD, drop_eq]
  have hdq : (nV s 1).Queue = m :: t := hq
  rw [hdq, hc]
  simp only [hc1, hc2, hc3, Bool.and_self, cA]
  have sq : s.Queue.map (·.Seq) = m.Seq :: t.map (·.Seq) := by rw [hq]; rfl
  have sl : (s.Queue.length : Int) = (t.length : Int) + 1 := by rw [hq]; simp
  cases hlv : !live now m with
  | true =>
   simp only [cA]
   have hdn := aoY hs (n := 1) (by omega) (by omega)
   obtain ⟨r, L, e, f⟩ := ih (tA (nV s 1) t) z acc fu rfl (by omega) ((hs.drop (by omega) (by omega)).queue (by omega) ht) (by omega) (by show (nV s 1).Dropped + _ ≤ _; omega)
   refine ⟨r, L, e, ?_, ?_, f.out⟩
   ·rw [sq]; exact f.sub.trans (List.sublist_cons_self _ _)
   ·have := f.num
    have e1 : (tA (nV s 1) t).Dropped = s.Dropped + 1 := hdn
    have e2 : ((tA (nV s 1) t).Queue.length : Int) = t.length := rfl
    rw [e1, e2] at this
    omega
  | false =>
   simp only [cS]
   by_cases hv : m.Level = 0
   ·have hv' : (m.Level == 0) = true := by simpa using hv
    simp only [hv', cA]
    rw [sJ (by omega), bD, aO (by simp; omega)]
    obtain ⟨r, L, e, f⟩ := ih (tA s t) z (acc ++ [yY 0 false m]) fu rfl (by omega) (hs.queue (by omega) ht) (by simp; omega) (by show s.Dropped + _ ≤ _; omega)
    refine ⟨r, (0, m) :: L, ?_, ?_, ?_, ?_⟩
    ·rw [List.append_assoc] at e
     exact e
    ·rw [sq]; exact f.sub.cons_cons _
    ·have := f.num
     have e1 : (tA s t).Dropped = s.Dropped := rfl
     have e2 : ((tA s t).Queue.length : Int) = t.length := rfl
     rw [e1, e2] at this
     rw [List.length_cons]
     omega
    ·have := f.out
     have e1 : (tA s t).Out = s.Out := rfl
     rw [e1] at this
     rw [List.length_cons]
     omega
   ·have hv' : (m.Level == 0) = false := by simpa using hv
    simp only [hv', cS]
    by_cases c : s.Out.Limit ≤ s.Out.Items.length
    ·refine ⟨s, [], ?_, ⟨by simp, by simp, by simp⟩⟩
     unfold nL
     rw [aU (by simpa using hv), (acn hs.win).1, if_pos c]
     simp [pT]
    ·obtain ⟨x, x0, x1, x2, e1, e2⟩ := start_eq hs.win (by omega) hm hv
     rw [e1]
     simp only [bD]
     rw [aU (by rfl), aO (by simp; omega)]
     obtain ⟨r, L, e, f⟩ := ih (tA (yQ s (begun s.Out m x)) t) z (acc ++ [yY x false m]) fu rfl (by omega) ((hs.out (anI hs.win (by omega) hm hv x0 x1 x2)).queue (by omega) ht) (by simp; omega) (by show s.Dropped + _ ≤ _; omega)
     refine ⟨r, (x, m) :: L, ?_, ?_, ?_, ?_⟩
     ·rw [List.append_assoc] at e
      exact e
     ·rw [sq]; exact f.sub.cons_cons _
     ·have := f.num
      have e1 : (tA (yQ s (begun s.Out m x)) t).Dropped = s.Dropped := rfl
      have e2 : ((tA (yQ s (begun s.Out m x)) t).Queue.length : Int) = t.length := rfl
      rw [e1, e2] at this
      rw [List.length_cons]
      omega
     ·have := f.out
      have e1 : (tA (yQ s (begun s.Out m x)) t).Out.Items.length = s.Out.Items.length + 1 := by show (s.Out.Items ++ [_]).length = _; simp
      rw [e1] at this
      rw [List.length_cons]
      omega
theorem afN {s : aB} (h : SOK s) (now : Int) (pre : List aC) (hp : pre.length ≤ 1000) (ho : s.Online = true) (hd : s.Dropped + s.Queue.length ≤ 1099511627776) : ∃ r L, hR s now pre = some (r, pre ++ pT L) ∧ SOK r ∧ yO s r L := by
 obtain ⟨r, e1, _, _, r1, _⟩ := alx s now h pre hp
 obtain ⟨z, hz⟩ := alb s now pre
 have hq := h.qlen
 obtain ⟨r', L, f1, f2⟩ := aqJ now s.Queue s z pre fuel rfl (by rw [fX]; omega) h (by omega) hd
 have e := e1 ho
 rw [hz, f1] at e
 have e := Option.some.inj e
 have e3 : r' = r.1 := congrArg Prod.fst e
 exact ⟨r', L, by rw [hz, f1], by rw [e3]; exact r1, f2⟩
theorem aqA {s : aB} (h : SOK s) (now : Int) (hd : s.Dropped + s.Queue.length ≤ 1099511627776) : ∃ r L, lZ s now = some (r, pT L) ∧ SOK r ∧ yO s r L := by
 unfold lZ
 rw [uA s h.wX]
 simp only [bD]
 cases ho : s.Online with
 | false => exact ⟨s, [], rfl, h, ⟨by simp, by simp, by simp⟩⟩
 | true =>
  obtain ⟨r, L, e, h1, h2⟩ := afN h now [] (by simp) ho hd
  simp only [Bool.not_true, cS]
  rw [e]
  exact ⟨r, L, rfl, h1, h2⟩
def w5 (k id : Int) : aC := aC.mk k id false (aA.mk ([] : Str) ([] : Str) 0 false 0 0 ([] : Str) 0 ([] : List aG)) ([] : Str) ([] : Str) false 0 0 0 (aT.mk false 0 (aA.mk ([] : Str) ([] : Str) 0 false 0 0 ([] : Str) 0 ([] : List aG))) false 0 ([] : List aF) ([] : List Str) ([] : List Int)
def aoT (f : aD) : aC :=
 cond (f.Message.Level == 1) (w5 4 f.ID) (cond (f.State == 1) (w5 5 f.ID) (w5 7 f.ID))
end Md
end PX
