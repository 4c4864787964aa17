import Derived.Test.YtmcpanmcgpjfiaaGreatDoorSeatD
set_option linter.unusedVariables false
set_option linter.unusedSimpArgs false
namespace PX
open Go
namespace Md
theorem ayU (c : Str) (x : aA) (w : List aA) (a : List aA) (ha : a.length ≤ 1000) (hw : w.length ≤ 1000) (h1 : ∀ y ∈ a, y.Client ≠ c → y ∈ w) (h2 : ∀ y ∈ a, y.Client = c → y.Epoch < x.Epoch ∧ aA.mk c y.Node y.Epoch ∉ w) (h3 : w.length = (a.filter fun y => !(y.Client == c)).length + 1) :
  dJ fuel c (w.length : Int) a (a.length : Int) 0 x w = some true := by
 have := jY (l := a) (F := fun fu i (n : Int) => dJ fu c n a (a.length : Int) i x w) (g := fun _ _ => some true) (fun i n => n = ((a.drop i).filter fun y => !(y.Client == c)).length + 1)
  (fun fu n hn => by
   rw [List.drop_length] at hn
   have : n = 1 := by simpa using hn
   rw [dJ, aY (by simp), this, aiq]; rfl)
  (fun fu i n hi hn ih => by
   rw [List.drop_eq_getElem_cons hi] at hn
   have hx := List.getElem_mem hi
   rw [dJ, aO (eM hi), aO (inr hi), bZ hi, bW (by omega)]
   by_cases e : a[i].Client = c
   ·obtain ⟨q1, q2⟩ := h2 _ hx e
    have hb : (!(a[i].Client == c)) = false := by simp [e]
    rw [List.filter_cons_of_neg (by simp [e])] at hn
    rw [hb, dP, aY (by simp; omega), aoi w _ _ _ (by omega), bB, decide_eq_false q2, dP]
    exact ih n hn
   ·have hb : (!(a[i].Client == c)) = true := by simpa using e
    rw [List.filter_cons_of_pos (p := fun y : aA => !(y.Client == c)) hb, List.length_cons] at hn
    have hle := List.length_filter_le (fun y : aA => !(y.Client == c)) (a.drop (i + 1))
    have hd : (a.drop (i + 1)).length ≤ 1000 := by simp; omega
    have hw1 : IntKind.wrap .i64 (n - 1) = n - 1 := by rw [IntKind.wrap_i64]; omega
    rw [hb, dE, contains_eq w _ (by omega), bB, decide_eq_true (h1 _ hx e), hw1]
    simp only [Bool.not_true, dP]
    exact ih _ (by omega)) (by omega) (w.length : Int) (by rw [List.drop_zero]; omega)
 exact this
theorem abo (p0 : (List aA)) (p1 : Str) (p2 : Int) (g0 : D.okL [.sl aA.ks] ([D.sl aA.ks (List.map aA.enc p0)])) (g1 : D.okL [.str] ([D.str p1])) (g2 : D.okL [.int .i64] ([D.int .i64 p2])) : mF p0 p1 p2 = some true := by
 have h0 : okL aA.good p0 := mS (fun _ => aA.hR) g0.1
 have hc : p1.length < 1000000000000000 := p9 (show okS p1 from g1.1)
 unfold mF kP
 rw [yU p0 h0, bB, aiq]
 by_cases c0 : aaj p0 = 0
 ·rw [aY (by simpa using c0)]
  have s := aei.1 c0
  have hl := s.len
  obtain ⟨A, M, B, k⟩ := xP p1 s.asc
  have hst := ao7 (n := p2) s k
  have hkl := k.len
  rw [at0 s hc k, bB]
  have hz : (rK p0 p1 p2 M).2.2 ≠ 0 → (rK p0 p1 p2 M).1 = [] := fun h => by
   unfold rK at h ⊢
   cases h1 : hY p1 with
   | false => rfl
   | true =>
    cases h2 : dG 0 6 p2 with
    | false => rfl
    | true =>
     rw [h1, h2] at h
     cases M with
     | nil =>
      cases h3 : decide ((p0.length : Int) ≥ 32) with
      | true => rfl
      | false => simp only [dE, h3, dP] at h; exact absurd rfl h
     | cons y t =>
      simp only [dE] at h ⊢
      cases h3 : decide (y.Epoch ≥ 1099511627776) with
      | true => rfl
      | false => simp only [h3, dP] at h; exact absurd rfl h
  have hx : (rK p0 p1 p2 M).2.2 = 0 → ∃ e, rK p0 p1 p2 M = (kX (aA.mk p1 p2 e) p0, aA.mk p1 p2 e, 0) ∧ ∀ y ∈ M, y.Epoch < e := fun h => by
   unfold rK at h ⊢
   cases h1 : hY p1 with
   | false => rw [h1] at h; cases h
   | true =>
    rw [h1] at h
    cases h2 : dG 0 6 p2 with
    | false => rw [h2] at h; cases h
    | true =>
     rw [h2] at h
     rcases k.mid with rfl | ⟨y, rfl, hy⟩
     ·simp only [dE] at h ⊢
      cases h3 : decide ((p0.length : Int) ≥ 32) with
      | true => rw [h3] at h; cases h
      | false => exact ⟨1, rfl, by simp⟩
     ·simp only [dE] at h ⊢
      cases h3 : decide (y.Epoch ≥ 1099511627776) with
      | true => rw [h3] at h; cases h
      | false => exact ⟨y.Epoch + 1, rfl, fun z hz => by rw [List.mem_singleton] at hz; rw [hz]; omega⟩
  by_cases h : (rK p0 p1 p2 M).2.2 = 0
  ·obtain ⟨e, he, hM⟩ := hx h
   have sw := hst h
   rw [he] at sw ⊢
   simp only at sw ⊢
   have hput := uK (x := aA.mk p1 p2 e) k
   have hxw : aA.mk p1 p2 e ∈ kX (aA.mk p1 p2 e) p0 := by rw [hput]; simp
   have gw : okL aA.good (kX (aA.mk p1 p2 e) p0) := by
    have hlw := sw.len
    refine ⟨by omega, fun y hy => ?_⟩
    rw [hput] at hy
    rcases List.mem_append.1 hy with hy | hy
    ·exact h0.2 y (by rw [k.eq]; simp [hy])
    ·rcases List.mem_cons.1 hy with rfl | hy
     ·have he := agv (sw.ok _ hxw)
      have hn := sw.ok _ hxw
      exact ⟨g1.1, (show okI .i64 p2 from g2.1.2), asT he.1 he.2⟩
     ·exact h0.2 y (by rw [k.eq]; simp [hy])
   have hnew : ∀ y ∈ M, eV (aA.mk p1 p2 e) y = true := fun y hy => zJ.2 (.inl (hM y hy))
   have m1 : jC p0 (kX (aA.mk p1 p2 e) p0) = kX (aA.mk p1 p2 e) p0 :=
    adn (lU s.asc).1 sw.asc fun d => by
     rw [mP sw.asc s.asc, adb s.asc]
     cases hd : (aA.mk p1 p2 e).Client == d with
     | false => exact amg _
     | true =>
      have : p1 = d := by simpa using hd
      rw [← this, ajv k]
      rcases k.mid with rfl | ⟨y, rfl, hy⟩
      ·rfl
      ·show cond (eV _ y) _ _ = _
       rw [hnew y (by simp)]; rfl
   have m2 := aqv sw.asc s.asc
   have hlw := sw.len
   rw [yU _ gw, aei.2 sw, aoi _ _ _ _ (by omega), decide_eq_true hxw, ahW p0 _ s.asc (by omega) (by omega), ahW _ p0 sw.asc (by omega) (by omega), m2, m1, bB, bB, bB, bB, aoo _ (by omega)]
   have eqw := aoo (kX (aA.mk p1 p2 e) p0) (by omega)
   simp only [bne_self_eq_false, dP, beq_self_eq_true, Bool.not_true, bB, eqw]
   refine ayU p1 (aA.mk p1 p2 e) (kX (aA.mk p1 p2 e) p0) p0 (by omega) (by omega) ?_ ?_ ?_
   ·intro y hy hne
    rw [hput]
    rw [k.eq] at hy
    rcases List.mem_append.1 hy with hy | hy
    ·simp [hy]
    ·rcases List.mem_append.1 hy with hy | hy
     ·rcases k.mid with rfl | ⟨z, rfl, hzc⟩
      ·cases hy
      ·rw [List.mem_singleton] at hy; rw [hy] at hne; exact absurd hzc hne
     ·simp [hy]
   ·intro y hy hey
    have hyM : y ∈ M := by
     rw [k.eq] at hy
     rcases List.mem_append.1 hy with hy | hy
     ·have := ade (k.lo y hy); simp [hey] at this
     ·rcases List.mem_append.1 hy with hy | hy
      ·exact hy
      ·have := wO (k.hi y hy); simp [hey] at this
    refine ⟨hM y hyM, fun hmem => ?_⟩
    have h1 := (adx sw.asc).1 hmem
    have h2 := (adx sw.asc).1 hxw
    have h3 : look p1 (kX (aA.mk p1 p2 e) p0) = some (aA.mk p1 y.Node y.Epoch) := h1
    have h4 : look p1 (kX (aA.mk p1 p2 e) p0) = some (aA.mk p1 p2 e) := h2
    rw [h3] at h4
    have h5 : y.Epoch = e := congrArg aA.Epoch (Option.some.inj h4)
    have := hM y hyM
    omega
   ·have fA : A.filter (fun y => !(y.Client == p1)) = A := List.filter_eq_self.2 fun y hy => by rw [ade (k.lo y hy)]; rfl
    have fB : B.filter (fun y => !(y.Client == p1)) = B := List.filter_eq_self.2 fun y hy => by rw [wO (k.hi y hy)]; rfl
    have fM : M.filter (fun y => !(y.Client == p1)) = [] := by
     rcases k.mid with rfl | ⟨z, rfl, hzc⟩
     ·rfl
     ·simp [hzc]
    rw [hput, k.eq, List.filter_append, List.filter_append, fA, fB, fM]
    simp
    omega
  ·have : ((rK p0 p1 p2 M).2.2 != 0) = true := by simpa using h
   rw [this, dE, hz h]; rfl
 ·rw [aO (by simpa using c0)]; rfl
end Md
end PX
