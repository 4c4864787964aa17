import Derived.Test.YtojlmojebnlmdaaGreatDoorSessQ
set_option linter.unusedVariables false
set_option linter.unusedSimpArgs false
namespace PX
open Go
namespace Md
theorem azR (f : aD) : rX f = some (aoT f) := by
 unfold rX aoT w5
 rw [cD, cD]
theorem apO {w : aI} (h : WOK w) {f : aD} (hf : f ∈ w.Items) : ∃ w' ps, j2 w (aoT f) = some (w', ps, 0) ∧ WOK w' ∧ w'.Items.length ≤ w.Items.length ∧ (ps = [] ∨ ps = [vG f.ID]) := by
 have hl := h.len
 rcases ahb f.ID w.Items 0 with ⟨e1, e2⟩ | ⟨A, f', B, e1, e2, e3⟩
 ·exact absurd rfl (e2 f hf)
 ·obtain ⟨_, n2⟩ := amn h e1
  have hff : f' = f := by
   rw [e1] at hf
   rcases List.mem_append.1 hf with hf | hf
   ·exact absurd e2.symm (n2 f (List.mem_append.2 (.inl hf)))
   ·rcases List.mem_cons.1 hf with rfl | hf
    ·rfl
    ·exact absurd e2.symm (n2 f (List.mem_append.2 (.inr hf)))
  subst hff
  have hi := afG e1
  have hlen : A.length + (B.length + 1) = w.Items.length := by rw [e1]; simp
  have ht : (0 : Int) + (A.length : Int) = (A.length : Int) := by omega
  have d1 : decide ((A.length : Int) ≥ 0) = true := by simp
  have d2 : decide ((A.length : Int) < 0) = false := by simp
  have t1 : Int.toNat (A.length : Int) = A.length := by simp
  have hr : decide ((A.length : Int) < (w.Items.length : Int)) = true := decide_eq_true (by have := hi.1; omega)
  have hr0 : decide (0 ≤ (A.length : Int)) = true := decide_eq_true (by omega)
  obtain ⟨m1, m2⟩ := amh h e1
  obtain ⟨f1, f2, f3⟩ := acC (h.ok f' (by rw [e1]; simp))
  have lv := amz f1
  have hset : aI.mk w.Limit (w.Items.set A.length (aD.mk f'.ID 2 f'.Message)) w.Pool = p9 w A f' B := by
   rw [e1, List.set_append_right _ _ (Nat.le_refl _)]
   simp [p9]
  have key : ∀ k, j2 w (w5 k f'.ID) = eS (A.length : Int) w (w5 k f'.ID) aiC f' := fun k => by
   unfold j2
   rw [find_eq _ _ (by omega), show (w5 k f'.ID).ID = f'.ID from rfl, e3, ht]
   simp only [bD, d1, cA, hr, hr0, Bool.and_self, t1, hi.2.1]
   rfl
  unfold aoT
  cases hv : f'.Message.Level == 1 with
  | true =>
   refine ⟨nO w A f' B, [], ?_, ab8 h e1, by simp only [nO, List.length_append]; omega, .inl rfl⟩
   rw [cA, key]
   unfold eS
   rw [show ((w5 4 f'.ID).Kind == 4) = true from rfl, cA, d2, cS, hv, cA, m1]; rfl
  | false =>
   have h1 : f'.Message.Level ≠ 1 := by simpa using hv
   have h2 : (f'.Message.Level == 2) = true := by simp; omega
   rw [cS]
   cases hs : f'.State == 1 with
   | true =>
    refine ⟨p9 w A f' B, [vG f'.ID], ?_, ai0 h e1 h1, by simp only [p9, List.length_append, List.length_cons]; omega, .inr rfl⟩
    rw [cA, key]
    unfold eS
    rw [show ((w5 5 f'.ID).Kind == 4) = false from rfl, cS, show ((w5 5 f'.ID).Kind == 5) = true from rfl, cA, d2, cS, h2, cA, abw h.lit, bD, hr, hr0, t1, hi.2.1]
    simp only [Bool.and_self, cA, ad2, bD]
    rw [hset]; rfl
   | false =>
    have s2 : (f'.State == 2) = true := by
     rcases f3 with f3 | ⟨f3, _⟩
     ·rw [f3] at hs; cases hs
     ·rw [f3]; rfl
    refine ⟨nO w A f' B, [], ?_, ab8 h e1, by simp only [nO, List.length_append]; omega, .inl rfl⟩
    rw [cS, key]
    unfold eS
    rw [show ((w5 7 f'.ID).Kind == 4) = false from rfl, cS, show ((w5 7 f'.ID).Kind == 5) = false from rfl, cS, show ((w5 7 f'.ID).Kind == 7) = true from rfl, cA, d2, cS, s2, cA, m1]; rfl
def gR (p : aC) : Bool := p.Kind == 3 && !p.Dup
theorem apK {s : aB} (h : SOK s) {f : aD} (hf : f ∈ s.Out.Items) (now : Int) (hd : s.Dropped + s.Queue.length ≤ 1099511627776) : ∃ r pre L, jS s (aoT f) now = some (r, pre ++ pT L, 0) ∧ SOK r ∧ yO s r L ∧ (∀ p ∈ pre, gR p = false) ∧ pre.length ≤ 40 := by
 obtain ⟨w, ps, e, hw, hl, hp⟩ := apO h.win hf
 have hs := h.out hw
 have hp1 : (∀ p ∈ ps, gR p = false) ∧ ps.length ≤ 1 := by
  rcases hp with rfl | rfl
  ·exact ⟨by simp, by simp⟩
  ·refine ⟨fun p hp => ?_, by simp⟩
   rw [List.mem_singleton] at hp; rw [hp]; rfl
 unfold jS
 rw [e, uA s h.wX]
 simp only [bD, bne_self_eq_false, cS]
 have mv : ∀ {r L}, yO (yQ s w) r L → yO s r L := fun m => ⟨m.sub, m.num, by have := m.out; have e : (yQ s w).Out = w := rfl; rw [e] at this; omega⟩
 cases ho : s.Online with
 | false =>
  refine ⟨yQ s w, ps, [], ?_, hs, mv ⟨by simp, by simp, by simp⟩, hp1.1, by omega⟩
  simp [yQ, ho, pT]
 | true =>
  obtain ⟨r, L, q1, q2, q3⟩ := afN hs now ps (by omega) ho hd
  have q1' : hR (aB.mk s.Client s.User true s.Conn s.Expiry s.Until s.Dropped s.Subs s.Queue w s.In s.Will) now ps = some (r, ps ++ pT L) := by rw [← ho]; exact q1
  simp only [Bool.not_true, cS]
  rw [q1']
  exact ⟨r, ps, L, rfl, q2, mv q3, hp1.1, by omega⟩
theorem arN {s : aB} (h : SOK s) {now : Int} (hn : 0 ≤ now ∧ now ≤ 1099511627776) (hd : s.Dropped + s.Queue.length ≤ 1099511627776) : yO s (acb s now) [] := by
 have hq := h.qlen
 have hf := List.length_filter_le lv s.Queue
 have a := (lW.1 h.head).2.2.2.2.2
 have e : IntKind.wrap .i64 ((s.Queue.length : Int) - ((s.Queue.filter lv).length : Int)) = (s.Queue.length : Int) - ((s.Queue.filter lv).length : Int) := by rw [IntKind.wrap_i64]; omega
 have e2 : IntKind.wrap .i64 (s.Dropped + ((s.Queue.length : Int) - ((s.Queue.filter lv).length : Int))) = s.Dropped + ((s.Queue.length : Int) - ((s.Queue.filter lv).length : Int)) := by rw [IntKind.wrap_i64]; omega
 refine ⟨?_, ?_, by simp [acb, nV]⟩
 ·show (s.Queue.filter lv |>.map (·.Seq)).Sublist _
  exact List.Sublist.map _ List.filter_sublist
 ·show (if 1099511627776 < IntKind.wrap .i64 (s.Dropped + IntKind.wrap .i64 ((s.Queue.length : Int) - ((s.Queue.filter lv).length : Int))) then 1099511627776 else IntKind.wrap .i64 (s.Dropped + IntKind.wrap .i64 ((s.Queue.length : Int) - ((s.Queue.filter lv).length : Int)))) + _ + ((s.Queue.filter lv).length : Int) = _
  rw [e, e2, if_neg (by omega)]
  simp
  omega
theorem apG (f : aD) : gR (hX f) = false := by
 unfold hX
 cases f.State == 2 <;> rfl
theorem anw {s : aB} (h : SOK s) {p : aC} (g : p.good) (hc : lR p = 0) {conn : Int} (hi : okI .i64 conn) (now : Int) (hd : s.Dropped + s.Queue.length ≤ 1099511627776) : ∃ r pre L, iC s p conn now = some (r, pre ++ pT L) ∧ SOK r ∧ yO s r L ∧ (∀ p ∈ pre, gR p = false) ∧ pre.length ≤ 40 := by
 have hb := ap3 h g hc hi
 have hw := adL (wK hc).2.2.2.2
 have hl := hb.win.lit
 have e1 : lP (aI.mk p.Window s.Out.Items s.Out.Pool) = some (s.Out.Items.map hX) := alZ (amV s.Out p.Window) hl
 have hn : (s.Out.Items.map hX).length ≤ 32 := by have : s.Out.Items.length ≤ 32 := hb.win.len; simpa using this
 have hp : ∀ q ∈ s.Out.Items.map hX, gR q = false := fun q hq => by
  obtain ⟨f, hf, rfl⟩ := List.mem_map.1 hq
  exact apG f
 generalize s.Out.Items.map hX = L0 at e1 hn hp
 obtain ⟨r, L, q1, q2, q3⟩ := afN hb now L0 (by omega) rfl hd
 have q1' : hR (aB.mk s.Client p.User true conn p.Expiry 0 s.Dropped s.Subs s.Queue (aI.mk p.Window s.Out.Items s.Out.Pool) s.In (aT.mk p.Will.Set p.Will.Delay p.Will.Message)) now L0 = some (r, L0 ++ pT L) := q1
 unfold iC
 rw [uA s h.wX, sJ (by omega)]
 simp only [bD]
 rw [e1, bD, q1', bD]
 exact ⟨r, L0, L, rfl, q2, ⟨q3.sub, q3.num, q3.out⟩, hp, by omega⟩
def aa9 (x : Int) : aC := aC.mk 1 0 false (aA.mk ([] : Str) ([] : Str) 0 false 0 0 ([] : Str) 0 ([] : List aG)) ([99] : Str) ([] : Str) false 0 9 x (aT.mk false 0 (aA.mk ([] : Str) ([] : Str) 0 false 0 0 ([] : Str) 0 ([] : List aG))) false 0 ([] : List aF) ([] : List Str) ([] : List Int)
theorem axS : j3 ([99] : Str) = true := by kernel_rfl
theorem aqQ : willE (aT.mk false 0 aiu) = 0 := by kernel_rfl
theorem akW {x : Int} (h0 : 1 ≤ x) (h1 : x ≤ 32) : lR (aa9 x) = 0 := by
 unfold lR ait
 rw [show j3 (aa9 x).Client = true from axS, cA, show ((aa9 x).User == []) = true from rfl, cA, show dF 0 1099511627776 (aa9 x).Keep = true from rfl, cA, show dF 0 1099511627776 (aa9 x).Expiry = true from rfl, cA, show dF 1 32 (aa9 x).Window = true from tT.2 ⟨h0, h1⟩, cA]
 exact aqQ
theorem akw {x : Int} (h0 : 1 ≤ x) (h1 : x ≤ 32) : (aa9 x).good := by
 have z : okI .i64 0 := nB (by decide) (by decide)
 have nl : ∀ {α : Type} (P : α → Prop), okL P [] := fun P => ⟨by simp, by simp⟩
 have ns : okS [] := by show (0 : Nat) ≤ _; omega
 have m : (aA.mk ([] : Str) ([] : Str) 0 false 0 0 ([] : Str) 0 ([] : List aG)).good := ⟨ns, ns, z, z, z, ns, z, nl _⟩
 exact ⟨nB (x := 1) (by decide) (by decide), z, m, by show (1 : Nat) ≤ _; omega, ns, z, nB (x := 9) (by decide) (by decide), nB (x := x) (by omega) (by omega), ⟨z, m⟩, z, nl _, nl _, nl _⟩
theorem aox (x : Int) : IntKind.wrap .u64 x = x % 18446744073709551616 := by
 simp only [IntKind.wrap, IntKind.signed, IntKind.bits]; simp
theorem aqb (x : Int) {n : Nat} (h0 : 0 < n) (h1 : n ≤ 1000) : ∃ j : Nat, j < n ∧ IntKind.wrap .i64 (Int.tmod (IntKind.wrap .u64 x) (IntKind.wrap .u64 (n : Int))) = (j : Int) := by
 have e : IntKind.wrap .u64 (n : Int) = (n : Int) := by rw [aox]; omega
 rw [e, aox x, Int.tmod_eq_emod_of_nonneg (by omega)]
 have a := Int.emod_nonneg (x % 18446744073709551616) (b := (n : Int)) (by omega)
 have b := Int.emod_lt_of_pos (x % 18446744073709551616) (b := (n : Int)) (by omega)
 refine ⟨Int.toNat ((x % 18446744073709551616) % (n : Int)), by omega, ?_⟩
 rw [IntKind.wrap_i64]
 omega
theorem run_eq {s : aB} (h : SOK s) (op : aK) {now : Int} (hn : 0 ≤ now ∧ now ≤ 1099511627776) (hd : s.Dropped + s.Queue.length ≤ 1099511627776) : ∃ r pre L, sG s op now = some (r, pre ++ pT L, true) ∧ SOK r ∧ yO s r L ∧ (∀ p ∈ pre, gR p = false) ∧ pre.length ≤ 40 := by
 have hw := h.win.len
 unfold sG
 cases k1 : op.Kind == 1 with
 | true =>
  obtain ⟨r, L, e, h1, h2⟩ := aqA h now hd
  rw [cA, e]
  exact ⟨r, [], L, rfl, h1, h2, by simp, by simp⟩
 | false =>
  rw [cS]
  cases k2 : op.Kind == 2 with
  | true =>
   rw [cA]
   by_cases hz : s.Out.Items.length = 0
   ·rw [aO (by simp [hz])]
    exact ⟨s, [], [], rfl, h, ⟨by simp, by simp, by simp⟩, by simp, by simp⟩
   ·obtain ⟨j, hj, ej⟩ := aqb op.N (n := s.Out.Items.length) (by omega) (by omega)
    have hu : (IntKind.wrap .u64 (s.Out.Items.length : Int) != 0) = true := by rw [aox]; simp; omega
    rw [aU (by simpa using hz), aO hu, ej, aO (inr hj), bV hj, azR, bD]
    obtain ⟨r, pre, L, e, h1, h2, h3, h4⟩ := apK h (List.getElem_mem hj) now hd
    rw [e]
    exact ⟨r, pre, L, rfl, h1, h2, h3, h4⟩
  | false =>
   rw [cS]
   cases k3 : op.Kind == 3 with
   | true =>
    rw [cA, aj1 _ h.wX]
    exact ⟨acb s now, [], [], rfl, ap1 h hn, arN h hn hd, by simp, by simp⟩
   | false =>
    rw [cS]
    have key : ∀ (x : Int) (z : aB), 1 ≤ x → x ≤ 32 → ∃ r pre L, kD now x s z = some (r, pre ++ pT L, true) ∧ SOK r ∧ yO s r L ∧ (∀ p ∈ pre, gR p = false) ∧ pre.length ≤ 40 := fun x z x0 x1 => by
     obtain ⟨r, pre, L, e, h1, h2, h3, h4⟩ := anw h (akw x0 x1) (akW x0 x1) (conn := 1) (nB (by decide) (by decide)) now hd
     have e' : iC s (aC.mk 1 0 false (aA.mk ([] : Str) ([] : Str) 0 false 0 0 ([] : Str) 0 ([] : List aG)) ([99] : Str) ([] : Str) false 0 9 x (aT.mk false 0 (aA.mk ([] : Str) ([] : Str) 0 false 0 0 ([] : Str) 0 ([] : List aG))) false 0 ([] : List aF) ([] : List Str) ([] : List Int)) 1 now = _ := e
     unfold kD
     rw [e']
     exact ⟨r, pre, L, rfl, h1, h2, h3, h4⟩
    have key2 : ∀ (x : Int) (z : aB), 1 ≤ x → ∃ r pre L, kF now x s z = some (r, pre ++ pT L, true) ∧ SOK r ∧ yO s r L ∧ (∀ p ∈ pre, gR p = false) ∧ pre.length ≤ 40 := fun x z x0 => by
     unfold kF
     by_cases c : x > 32
     ·rw [aO (by simpa using c)]; exact key 32 z (by omega) (by omega)
     ·rw [aU (by simpa using c)]; exact key x z x0 (by omega)
    by_cases c : op.N < 1
    ·rw [aO (by simpa using c)]; exact key2 1 _ (by omega)
    ·rw [aU (by simpa using c)]; exact key2 op.N _ (by omega)
end Md
end PX
