import Derived.Test.YtahbfpamckocmaaGreatDoorSessQ
set_option linter.unusedVariables false
set_option linter.unusedSimpArgs false
namespace PX
open Go
namespace Md
theorem auZ {p : aQ} (h : poolE p = 0) (hl : p.Used.length ≤ 31) : ∃ x, 1 ≤ x ∧ x ≤ 65535 ∧ x ∉ p.Used ∧ wG p = some (x, ⟨pF p.Used x, x⟩, 0) := by
 obtain ⟨_, ha, h0, h1⟩ := pL h
 obtain ⟨n, hn, hnm⟩ := arY p.Used.length p.Used (cnd p.Last) rfl (fun i j hij hj => arE _ hij (by omega))
 obtain ⟨k, hk, hkm, hkl⟩ := least (P := fun k => cnd p.Last k ∉ p.Used) n hnm
 have hin : ∀ j, j < k → p.Used.contains (cnd p.Last j) = true := fun j hj => by have := hkl j hj; simpa using this
 have hout : p.Used.contains (cnd p.Last k) = false := by simpa using hkm
 refine ⟨cnd p.Last k, (afb _ _).1, (afb _ _).2, hkm, ?_⟩
 ·unfold wG
  rw [aN (by simp; omega), cG (by omega)]
  have key : ∀ (d j fu : Nat) (x : Int) (z : aQ), j + d = k → d < fu → 0 ≤ x → x ≤ 65535 → x % 65535 + 1 = cnd p.Last j → nJ fu x ((p.Used.length + 1 : Nat) : Int) (j : Int) p z = some (cnd p.Last k, ⟨pF p.Used (cnd p.Last k), cnd p.Last k⟩, 0) := by
   intro d
   induction d with
   | zero =>
    intro j fu x z hj hf x0 x1 hx
    obtain ⟨fu, rfl⟩ : ∃ n, fu = n + 1 := ⟨fu - 1, by omega⟩
    obtain rfl : j = k := by omega
    rw [nJ, aM (by simp; omega), al0 x0 x1, aU, hx, abv _ (aax ha) (by omega), aU, hout]
    simp only [Bool.not_false, cS]
    rw [zC (by omega), aU, alB _ (by omega), aU]
   | succ d ih =>
    intro j fu x z hj hf x0 x1 hx
    obtain ⟨fu, rfl⟩ : ∃ n, fu = n + 1 := ⟨fu - 1, by omega⟩
    rw [nJ, aM (by simp; omega), al0 x0 x1, aU, hx, abv _ (aax ha) (by omega), aU, hin j (by omega)]
    simp only [Bool.not_true, dL]
    rw [cG (by omega)]
    exact ih (j + 1) fu _ z (by omega) (by omega) (by have := afb p.Last j; omega) (afb _ _).2 (apR _ _).symm
  exact key k 0 fuel p.Last _ (by omega) (by rw [fU]; omega) h0 h1 (by unfold cnd; simp)
theorem aqK {w : aH} (h : WOK w) : rL w = some (if w.Limit ≤ w.Items.length then 0 else w.Limit - w.Items.length) := by
 have h0 := h.l0
 have h1 := h.l1
 have h2 := h.len
 have e : IntKind.wrap .i64 (w.Limit - (w.Items.length : Int)) = w.Limit - w.Items.length := by rw [IntKind.wrap_i64]; omega
 unfold rL
 rw [e]
 by_cases c : w.Limit ≤ w.Items.length
 ·rw [if_pos c]
  congr 1; split <;> omega
 ·rw [if_neg c]
  congr 1; split <;> omega
theorem asQ {w : aH} (h : WOK w) (hl : w.Items.length < w.Limit) {m : aA} (hm : okT m) (hv : m.Level ≠ 0) : ∃ x, 1 ≤ x ∧ x ≤ 65535 ∧ x ∉ w.Pool.Used ∧ n8 w m = some (begun w m x, aeK x false m, 0) := by
 have a1 := h.l1
 have a2 := h.used
 have a3 := mM hm.1
 obtain ⟨x, x0, x1, x2, e1⟩ := auZ h.pool (by omega)
 have hz : (if w.Limit ≤ w.Items.length then (0 : Int) else w.Limit - w.Items.length) ≠ 0 := by rw [if_neg (by omega)]; omega
 refine ⟨x, x0, x1, x2, ?_⟩
 ·unfold n8
  rw [aN (by simpa using hv), aqK h, aU, aN (by simpa using hz), qR _ (aah hm.2), aU, hm.1, aN (by rfl), e1, aU, aN (by rfl), aby h.lit, aU, zY (by omega), aU, aM (by simp; omega)]
  unfold lV
  rw [zY (by show m.Props.length ≤ 1000; omega)]
  rfl
theorem at3 (now : Int) : ∀ (q : List aA) (s z : aC) (acc : List aF) (fu : Nat), s.Queue = q → q.length < fu → SOK s → acc.length + q.length ≤ 2000 → s.Dropped + q.length ≤ 1099511627776 →
  ∃ r L, fC fu now s z acc = some (r, acc ++ wD L) ∧ aj3 s r L ∧ SOK r ∧ L.length ≤ q.length := by
 intro q
 induction q with
 | nil =>
  intro s z acc fu hq h1 hs hl hd
  obtain ⟨fu, rfl⟩ : ∃ n, fu = n + 1 := ⟨fu - 1, by omega⟩
  refine ⟨s, [], ?_, ⟨by simp, by simp, by simp⟩, hs, by simp⟩
  rw [fC, hq]; simp [wD]
 | cons m t ih =>
  intro s z acc fu hq h1 hs hl hd
  obtain ⟨fu, rfl⟩ : ∃ n, fu = n + 1 := ⟨fu - 1, by omega⟩
  simp only [List.length_cons] at h1 hl hd
  have hql := hs.qlen
  rw [hq] at hql
  simp only [List.length_cons] at hql
  have hm : okT m := hs.q m (by rw [hq]; simp)
  have ht : ∀ x ∈ t, okT x := fun x hx => hs.q x (by rw [hq]; simp [hx])
  have hp := mM hm.1
  have hc : eF (m :: t) (some 1) none = t := by simp [eF]
  have hc0 : (decide (((m :: t).length : Int) > 0)) = true := by simp
  have hc1 : decide (0 ≤ 0) = true := rfl
  have hc2 : decide (0 ≤ 1) = true := rfl
  have hc3 : decide ((1 : Int) ≤ ((m :: t).length : Int)) = true := by simp; omega
  have hg : List.getD (m :: t) (Int.toNat 0) default = m := rfl
  rw [fC, hq, hg, amE]
  simp only [hc0, hc1, hc2, hc3, Bool.and_self, cS, aU, drop_eq]
  have hdq : (pY s 1).Queue = m :: t := hq
  rw [hdq, hc]
  simp only [hc1, hc2, hc3, Bool.and_self, cS]
  have sq : s.Queue.map (·.Seq) = m.Seq :: t.map (·.Seq) := by rw [hq]; rfl
  have sl : (s.Queue.length : Int) = (t.length : Int) + 1 := by rw [hq]; simp
  cases hlv : !live now m with
  | true =>
   simp only [cS]
   have hdn := ap1 hs (n := 1) (by omega) (by omega)
   obtain ⟨r, L, e, f, f2, f3⟩ := ih (rG (pY s 1) t) z acc fu rfl (by omega) ((hs.drop (by omega) (by omega)).queue (by omega) ht) (by omega) (by show (pY s 1).Dropped + _ ≤ _; omega)
   refine ⟨r, L, e, ⟨?_, ?_, f.out⟩, f2, by simp; omega⟩
   ·rw [sq]; exact f.sub.trans (List.sublist_cons_self _ _)
   ·have := f.num
    have e1 : (rG (pY s 1) t).Dropped = s.Dropped + 1 := hdn
    have e2 : ((rG (pY s 1) t).Queue.length : Int) = t.length := rfl
    rw [e1, e2] at this
    omega
  | false =>
   simp only [dL]
   by_cases hv : m.Level = 0
   ·have hv' : (m.Level == 0) = true := by simpa using hv
    simp only [hv', cS]
    rw [tR (by omega), aU, aM (by simp; omega)]
    obtain ⟨r, L, e, f, f2, f3⟩ := ih (rG s t) z (acc ++ [aeK 0 false m]) fu rfl (by omega) (hs.queue (by omega) ht) (by simp; omega) (by show s.Dropped + _ ≤ _; omega)
    refine ⟨r, (0, m) :: L, ?_, ⟨?_, ?_, ?_⟩, f2, by simp; omega⟩
    ·rw [List.append_assoc] at e
     exact e
    ·rw [sq]; exact f.sub.cons_cons _
    ·have := f.num
     have e1 : (rG s t).Dropped = s.Dropped := rfl
     have e2 : ((rG s t).Queue.length : Int) = t.length := rfl
     rw [e1, e2] at this
     rw [List.length_cons]
     omega
    ·have := f.out
     have e1 : (rG s t).Out = s.Out := rfl
     rw [e1] at this
     rw [List.length_cons]
     omega
   ·have hv' : (m.Level == 0) = false := by simpa using hv
    simp only [hv', dL]
    by_cases c : s.Out.Limit ≤ s.Out.Items.length
    ·refine ⟨s, [], ?_, ⟨by simp, by simp, by simp⟩, hs, by simp⟩
     unfold n8
     rw [aN (by simpa using hv), aqK hs.win, if_pos c]
     simp [wD]
    ·obtain ⟨x, x0, x1, x2, e1⟩ := asQ hs.win (by omega) hm hv
     rw [e1]
     simp only [aU]
     rw [aN (by rfl), aM (by simp; omega)]
     obtain ⟨r, L, e, f, f2, f3⟩ := ih (rG (zP s (begun s.Out m x)) t) z (acc ++ [aeK x false m]) fu rfl (by omega) ((hs.out (apJ hs.win (by omega) hm hv x0 x1 x2)).queue (by omega) ht) (by simp; omega) (by show s.Dropped + _ ≤ _; omega)
     refine ⟨r, (x, m) :: L, ?_, ⟨?_, ?_, ?_⟩, f2, by simp; omega⟩
     ·rw [List.append_assoc] at e
      exact e
     ·rw [sq]; exact f.sub.cons_cons _
     ·have := f.num
      have e1 : (rG (zP s (begun s.Out m x)) t).Dropped = s.Dropped := rfl
      have e2 : ((rG (zP s (begun s.Out m x)) t).Queue.length : Int) = t.length := rfl
      rw [e1, e2] at this
      rw [List.length_cons]
      omega
     ·have := f.out
      have e1 : (rG (zP s (begun s.Out m x)) t).Out.Items.length = s.Out.Items.length + 1 := by show (s.Out.Items ++ [_]).length = _; simp
      rw [e1] at this
      rw [List.length_cons]
      omega
theorem alh {s : aC} (h : SOK s) (now : Int) (pre : List aF) (hp : pre.length ≤ 1000) (hd : s.Dropped + s.Queue.length ≤ 1099511627776) : ∃ r L, kP s now pre = some (r, pre ++ wD L) ∧ SOK r ∧ aj3 s r L ∧ L.length ≤ 256 := by
 obtain ⟨z, hz⟩ := aru s now pre
 have hq := h.qlen
 obtain ⟨r', L, f1, f2, f3, f4⟩ := at3 now s.Queue s z pre fuel rfl (by rw [fU]; omega) h (by omega) hd
 exact ⟨r', L, by rw [hz, f1], f3, f2, by omega⟩
theorem auj {s : aC} (h : SOK s) (now : Int) (hd : s.Dropped + s.Queue.length ≤ 1099511627776) : ∃ r L, mP s now = some (r, wD L) ∧ SOK r ∧ aj3 s r L ∧ L.length ≤ 256 := by
 unfold mP
 rw [qM s h.abk]
 simp only [aU]
 cases ho : s.Online with
 | false => exact ⟨s, [], rfl, h, ⟨by simp, by simp, by simp⟩, by simp⟩
 | true =>
  obtain ⟨r, L, e, h1, h2, h3⟩ := alh h now [] (by simp) hd
  simp only [Bool.not_true, dL]
  rw [e]
  exact ⟨r, L, rfl, h1, h2, h3⟩
theorem arD {w : aH} (h : WOK w) {A B : List aB} {f : aB} (e : w.Items = A ++ f :: B) : mU w (A.length : Int) = some (s9 w A f B) := by
 obtain ⟨h1, h2, h3, h4⟩ := aks e
 have hl := h.len
 have hu := h.used
 have hx : f.ID ∈ w.Pool.Used := h.mem f (by rw [e]; simp)
 have t1 : Int.toNat (A.length : Int) = A.length := by simp
 have t2 : Int.toNat ((A.length + 1 : Nat) : Int) = A.length + 1 := by simp
 ·unfold mU
  rw [aM (inr h1), t1, h2, ard h.pool hx, aU, aby h.lit, aU, cG (by omega)]
  unfold iE aiD
  rw [aM (by simp; omega), aU, t1, t2, h3, h4]; rfl
theorem apv {w : aH} (h : WOK w) (p : aF) : ∃ r, pM w p = some r ∧ (r.2.2 = 0 → WOK r.1) ∧ (∀ q ∈ r.2.1, pOK q) ∧ r.2.1.length ≤ 1 := by
 have hl := h.len
 unfold pM
 rw [find_eq _ _ (by omega)]
 simp only [aU, oT]
 rcases ajd p.ID w.Items 0 with ⟨e1, e2⟩ | ⟨A, f, B, e1, e2, e3⟩
 ·rw [e1]
  have d1 : decide ((-1 : Int) ≥ 0) = false := rfl
  have d2 : decide ((-1 : Int) < 0) = true := rfl
  unfold j9
  simp only [d1, d2, cS, dL, aby h.lit, aU, ad3]
  cases k4 : p.Kind == 4 with
  | true =>
   have : p.Kind = 4 := by simpa using k4
   have k5 : (p.Kind == 5) = false := by rw [this]; rfl
   rw [k5]
   exact ⟨(w, [], 0), rfl, fun _ => h, by simp, by simp⟩
  | false =>
   cases k5 : p.Kind == 5 with
   | true => exact ⟨(w, [aat p.ID], 0), rfl, fun _ => h, by intro q hq; rw [List.mem_singleton] at hq; rw [hq]; exact adZ _, by simp⟩
   | false =>
    cases k7 : p.Kind == 7 with
    | true => exact ⟨(w, [], 0), rfl, fun _ => h, by simp, by simp⟩
    | false => exact ⟨(ahX, [], 10), rfl, by simp, by simp, by simp⟩
 ·rw [e3]
  have hi := aks e1
  have ht : (0 : Int) + (A.length : Int) = (A.length : Int) := by omega
  have d1 : decide ((A.length : Int) ≥ 0) = true := by simp
  have d2 : decide ((A.length : Int) < 0) = false := by simp
  have t1 : Int.toNat (A.length : Int) = A.length := by simp
  rw [ht, d1]
  unfold j9
  have hr : decide ((A.length : Int) < (w.Items.length : Int)) = true := decide_eq_true (by have := hi.1; omega)
  have hr0 : decide (0 ≤ (A.length : Int)) = true := decide_eq_true (by omega)
  have m1 := arD h e1
  simp only [cS, dL, hr, hr0, Bool.and_self, t1, hi.2.1, d2, aby h.lit, aU, ad3, m1, e2]
  obtain ⟨f1, f2, f3⟩ := adQ (h.ok f (by rw [e1]; simp))
  have lv := anN f1
  have hset : aH.mk w.Limit (w.Items.set A.length (aB.mk p.ID 2 f.Message)) w.Pool = abt w A f B := by
   rw [e1, List.set_append_right _ _ (Nat.le_refl _), ← e2]
   simp [abt]
  rw [hset]
  cases k4 : p.Kind == 4 with
  | true =>
   have : p.Kind = 4 := by simpa using k4
   have k5 : (p.Kind == 5) = false := by rw [this]; rfl
   have k7 : (p.Kind == 7) = false := by rw [this]; rfl
   rw [k5, k7]
   cases hv : f.Message.Level == 1 with
   | true => exact ⟨(s9 w A f B, [], 0), rfl, fun _ => ahj h e1, by simp, by simp⟩
   | false => exact ⟨(ahX, [], 23), rfl, by simp, by simp, by simp⟩
  | false =>
   cases k5 : p.Kind == 5 with
   | true =>
    have : p.Kind = 5 := by simpa using k5
    have k7 : (p.Kind == 7) = false := by rw [this]; rfl
    rw [k7]
    cases hv : f.Message.Level == 1 with
    | true =>
     have : (f.Message.Level == 2) = false := by
      have : f.Message.Level = 1 := by simpa using hv
      rw [this]; rfl
     rw [this]
     exact ⟨(ahX, [], 23), rfl, by simp, by simp, by simp⟩
    | false =>
     have h1 : f.Message.Level ≠ 1 := by simpa using hv
     have : (f.Message.Level == 2) = true := by simp; omega
     rw [this]
     exact ⟨(abt w A f B, [aat p.ID], 0), rfl, fun _ => alF h e1 h1, by intro q hq; rw [List.mem_singleton] at hq; rw [hq]; exact adZ _, by simp⟩
   | false =>
    cases k7 : p.Kind == 7 with
    | true =>
     rcases f3 with f3 | ⟨f3, f4⟩
     ·have s2 : (f.State == 2) = false := by rw [f3]; rfl
      have s1 : (f.State == 1) = true := by rw [f3]; rfl
      rw [s2]
      exact ⟨(ahX, [], 23), rfl, by simp, by simp, by simp⟩
     ·have s2 : (f.State == 2) = true := by rw [f3]; rfl
      have s1 : (f.State == 1) = false := by rw [f3]; rfl
      have hv : (f.Message.Level == 1) = false := by simpa using f4
      rw [s2]
      exact ⟨(s9 w A f B, [], 0), rfl, fun _ => ahj h e1, by simp, by simp⟩
    | false => exact ⟨(ahX, [], 10), rfl, by simp, by simp, by simp⟩
theorem ao0 {s : aC} (h : SOK s) (p : aF) (now : Int) (hd : s.Dropped + s.Queue.length ≤ 1099511627776) : ∃ r, j7 s p now = some r ∧ r.2.1.length ≤ 1001 ∧ (r.2.2 = 0 → SOK r.1 ∧ r.1.Dropped + r.1.Queue.length ≤ s.Dropped + s.Queue.length) := by
 obtain ⟨⟨w, ps, c⟩, e1, r1, r2, r3⟩ := apv h.win p
 unfold j7
 rw [e1, qM s h.abk]
 simp only [aU] at r1 r2 r3 ⊢
 by_cases hc : c = 0
 ·subst hc
  have hs := h.out (r1 rfl)
  simp only [bne_self_eq_false, dL, aU]
  cases ho : s.Online with
  | false =>
   rw [Bool.not_false, cS]
   have e : aC.mk s.Client s.User false s.Conn s.Expiry s.Until s.Dropped s.Subs s.Queue w s.In s.Will = zP s w := by unfold zP; rw [ho]
   rw [e]
   exact ⟨_, rfl, by dsimp only; omega, fun _ => ⟨hs, Int.le_refl _⟩⟩
  | true =>
   obtain ⟨r, L, q1, q2, q3, q4⟩ := alh hs now ps (by omega) hd
   have q1' : kP (aC.mk s.Client s.User true s.Conn s.Expiry s.Until s.Dropped s.Subs s.Queue w s.In s.Will) now ps = some (r, ps ++ wD L) := by rw [← ho]; exact q1
   simp only [Bool.not_true, dL]
   rw [q1', aU]
   have hL : (wD L).length = L.length := by unfold wD; simp
   refine ⟨_, rfl, by simp only [List.length_append, hL]; omega, fun _ => ⟨q2, ?_⟩⟩
   have := q3.num
   have e1 : (zP s w).Dropped = s.Dropped := rfl
   have e2 : (zP s w).Queue = s.Queue := rfl
   rw [e1, e2] at this
   dsimp only
   omega
 ·have : (c != 0) = true := by simpa using hc
  rw [this, cS]
  exact ⟨_, rfl, by simp, fun q => absurd q hc⟩
theorem axK {p : aF} (h : oJ p = 0) (conn : Int) : rY p conn = some (apy p conn) := by
 obtain ⟨h1, h2, h3, h4, h5⟩ := wK h
 have hw := aeg h5
 unfold rY wB
 rw [tR (by omega), aU, aN (by simp; omega), aU, if_neg (by omega)]; rfl
theorem arj {s : aC} (h : SOK s) {p : aF} (g : p.good) (hc : oJ p = 0) {conn : Int} (hi : okI .i64 conn) (now : Int) (hd : s.Dropped + s.Queue.length ≤ 1099511627776) : ∃ r, jE s p conn now = some r ∧ SOK r.1 ∧ r.2.length ≤ 2000 ∧ r.1.Dropped + r.1.Queue.length ≤ s.Dropped + s.Queue.length := by
 have hb := arB h g hc hi
 have hw := aeg (wK hc).2.2.2.2
 have hl := hb.win.lit
 have e1 : m5 (aH.mk p.Window s.Out.Items s.Out.Pool) = some (s.Out.Items.map qH) := anZ (aqW s.Out p.Window) hl
 have hn : (s.Out.Items.map qH).length ≤ 32 := by have : s.Out.Items.length ≤ 32 := hb.win.len; simpa using this
 generalize s.Out.Items.map qH = L at e1 hn
 obtain ⟨r, M, q1, q2, q3, q4⟩ := alh hb now L (by omega) hd
 have q1' : kP (aC.mk s.Client p.User true conn p.Expiry 0 s.Dropped s.Subs s.Queue (aH.mk p.Window s.Out.Items s.Out.Pool) s.In (aV.mk p.Will.Set p.Will.Delay p.Will.Message)) now L = some (r, L ++ wD M) := q1
 unfold jE
 rw [qM s h.abk, tR (by omega)]
 simp only [aU]
 rw [e1, aU, q1', aU]
 have hM : (wD M).length = M.length := by unfold wD; simp
 refine ⟨_, rfl, q2, by simp only [List.length_append, hM]; omega, ?_⟩
 have := q3.num
 have e1 : (ana s p conn).Dropped = s.Dropped := rfl
 have e2 : (ana s p conn).Queue = s.Queue := rfl
 rw [e1, e2] at this
 dsimp only
 omega
end Md
end PX
