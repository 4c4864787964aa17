/- An evaluator of the program's Lean form that knows no memory, and the proof that what it tells of a call holds of that call: no statement of the program by itself; conditions: none beyond each theorem's own. -/
import Derived.Test.YtmcpanmcgpjfiaaGreatDoorPXa
import Derived.Laws.MakeOwn
import Derived.LoopN
import Derived.Tactics
set_option linter.unusedVariables false
set_option linter.unusedSimpArgs false
set_option linter.unusedVariables false
set_option linter.unusedSimpArgs false
namespace PX
open Go
section
variable {P : Program} {E : Env} {Γ : Fun} {X : Ctx} {G : Gh} {st : Sto} {a : Act} {w : World} {tr : Tr} {po : PO}
 {next : Act → World → Prop} {Q : Exit → Act → World → Prop} {o : Oper}
theorem abG {d : Nat} {ks e by_ xs} (h : prE Γ (newRow d ks e by_ xs) st tr = some po) :
  ks.all CK.isData = true ∧ 0 < ks.length ∧ st (.rw d) = .none ∧ ∃ tr', po = .val (.row d) (st.upd (.rw d) (.row ks e by_ xs false)) tr' := by
 unfold newRow at h
 obtain ⟨hc, h1⟩ := dF h
 simp only [Bool.and_eq_true, Bool.not_eq_true', adU] at hc
 obtain ⟨hf, tr1, h2⟩ := acT h1
 simp only [prE] at h2
 refine ⟨hc.1, ?_, hf, _, by simpa [prE] using h2.symm⟩
 rcases ks with _ | ⟨k, ks⟩
 ·simp at hc
 ·simp
theorem ayd (s : Sto) (l : Loc) (v v' : LV) : (s.upd l v).upd l v' = s.upd l v' := by
 funext l'
 by_cases h : l = l'
 ·subst h; simp
 ·rw [bH _ _ h, bH _ _ h, bH _ _ h]
theorem ago {d : Nat} {dst : Option Nat} (hdd : dst.getD 9999 = d) (R : Rel X G st a w) (hd : ∀ d, dst = some d → d < X.nt) (hf : st (.rw d) = .none) {ks e by_ xs v} (hk : ks.all CK.isData = true) (hk0 : 0 < ks.length) (hv : RowV G.F w ks e xs v)
  (hg : ∀ g, rowBlk v = some g → ¬ G.F g ∧ g < w.heap.size ∧ (X.B ≤ g ∨ X.M g) ∧ ∀ l, blk G st l ≠ some g) :
  Rel X (G.nV d v ks.length) (putDst (st.upd (.rw d) (.row ks e by_ xs false)) dst (.row d)) (a.put dst v) w := by
 have R1 := R.amp hf (by_ := by_) hk hk0 hv hg
 refine R1.putDst hd ?_ (by simp [AV.refs])
 have : (G.nV d v ks.length).rv d = v := by simp [Gh.nV]
 have h := AVR.row (G := G.nV d v ks.length) (w := w) d
 rwa [this] at h
theorem aoX (R : Rel X G st a w) {w' : World} (h : Ext w w') {g : Nat} (h1 : w.heap.size ≤ g) (h2 : g < w'.heap.size) : ¬ G.F g ∧ g < w'.heap.size ∧ (X.B ≤ g ∨ X.M g) ∧ ∀ l, blk G st l ≠ some g :=
 ⟨fun hk => by have := R.base.Flt _ hk; omega, h2, .inl (Nat.le_trans R.base.size h1), fun l hl => by have := (R.own l _ hl).2.1; omega⟩
theorem asn (EO : fS P E) {dst s x t u ty pos af g} : OpS P E Γ ⟨dst, .call ⟨.builtin .append, ⟨[s, x]⟩, ⟨[t, u]⟩⟩, ty, pos, af, g⟩ := by
 intro X G st a w tr po next Q h R hd _ hk _
 obtain ⟨v1, tr1, h1, hr1, h2⟩ := eP R (show prE Γ (ev s fun s => ev x fun x => gY E t fun e ei => gN E u fun ui => if acg ui || isStr ui then akR (dst.getD 9999) e ei s x else .fail) st tr = some po from h)
 obtain ⟨v2, tr2, h3, hr2, h4⟩ := eP R h2
 obtain ⟨e, ei, hei, htu, h5⟩ := oV EO h4
 obtain ⟨ui, hui, h6⟩ := fV h5
 obtain ⟨huc, h7⟩ := dF h6
 have hT := EO.ty e ei hei
 obtain ⟨du, hdu1, hdu2⟩ : ∃ du, P.underlying u = some du ∧ (du = .string ∨ ∃ e2, du = .slice e2) := by
  simp only [Bool.or_eq_true] at huc
  rcases huc with hc | hc
  ·exact ⟨_, aca EO hui hc, .inr ⟨_, rfl⟩⟩
  ·exact ⟨_, ae2 EO hui hc, .inl rfl⟩
 unfold akR at h7
 obtain ⟨ks, ys, tr3, h8, hsrc⟩ := anO (P := P) R h3 h7
 obtain ⟨hc, h9⟩ := dF h8
 simp only [Bool.and_eq_true, Bool.not_eq_true'] at hc
 obtain rfl := gM hc.1
 have hby : ei.bytes ≠ 0 := fun e0 => by rw [e0] at hc; simp at hc
 clear h8 h7 h6 h5 h4 h2 h
 have hrun : ∀ {v' : Value} {w' : World}, (Builtin.append_ #[t, u] ty #[a.eval s, a.eval x]).run P w = .ok v' w' → (execOp a.eval ⟨dst, .call ⟨.builtin .append, ⟨[s, x]⟩, ⟨[t, u]⟩⟩, ty, pos, af, g⟩).run P w = .ok (.value v') w' := by
  intro v' w' hh
  simp only [execOp, resolve, invoke, builtin, Sem.run_bind, Sem.run_pure, Result.andThen_ok]
  have : (⟨[s, x]⟩ : Array Operand).map a.eval = #[a.eval s, a.eval x] := by simp
  rw [this, hh]; rfl
 generalize hus : a.eval s = us at h1 hrun
 cases h1 <;> simp only at h9 <;> first | exact (bX h9).elim | skip
 case nil b =>
  obtain ⟨hlen, h10⟩ := iW h9
  obtain ⟨hk1, hk0, hf, tr', rfl⟩ := abG h10
  obtain ⟨news, hx⟩ := hsrc hk0
  obtain ⟨v', w', hr, hv', hext, hblk⟩ := agX (ty := ty) (v := .slice b 0 0) htu hdu1 hdu2 hT (xs := []) hk0 ⟨by simp, .inl ⟨b, rfl, rfl⟩⟩ hx hby (by simpa using of_decide_eq_true hlen) R.base.Flt (by cases b <;> simp [rowBlk])
  have hnb : rowBlk (.slice b 0 0) = none := by cases b <;> simp [rowBlk]
  have hE : Ext w w' := ⟨hext.os, hext.tape, hext.output, hext.size, fun k hk => hext.keep k hk (by rw [hnb]; simp)⟩
  refine kE (hrun hr) (hk _ _ _ rfl _ _ _ (ago rfl (R.ext hE) hd hf hk1 hk0 (by simpa using hv') (fun g' hg' => ?_)))
  rcases hblk g' hg' with h' | ⟨h', h''⟩
  ·rw [hnb] at h'; cases h'
  ·obtain ⟨q1, q2, q3, q4⟩ := aoX R hE h' h''
   exact ⟨q1, q2, q3, q4⟩
 case row r =>
  simp only [prE] at h9
  split at h9
  ·rename_i ks' e' by_ xs hrr
   obtain ⟨hc2, h10⟩ := dF h9
   simp only [Bool.and_eq_true, Bool.not_eq_true'] at hc2
   obtain ⟨⟨⟨hee, hkk⟩, hbb⟩, hrd⟩ := hc2
   obtain rfl := Nat.eq_of_beq_eq_true hee
   obtain rfl := gM hkk
   have hne : r ≠ dst.getD 9999 := by rintro rfl; simp at hrd
   obtain ⟨hlen, h11⟩ := iW h10
   simp only [prE] at h11
   obtain ⟨hk1, hk0, hf, tr', rfl⟩ := abG h11
   obtain ⟨news, hx⟩ := hsrc hk0
   obtain ⟨q1, q2, q3, q4, q5⟩ := R.rw r _ _ _ _ _ hrr
   have hlive : ∀ g', rowBlk (G.rv r) = some g' → ¬ G.F g' := fun g' hg' => (R.own (.rw r) g' (by simp [blk, hrr, hg'])).1
   obtain ⟨v', w', hr, hv', hext, hblk⟩ := agX (ty := ty) htu hdu1 hdu2 hT hk0 q4 hx hby (by simpa using of_decide_eq_true hlen) R.base.Flt hlive
   obtain ⟨R1, hgone⟩ := R.amP hrr hext
   refine kE (hrun hr) (hk _ _ _ rfl _ _ _ (ago rfl R1 hd hf hk1 hk0 hv' (fun g' hg' => ?_)))
   rcases hblk g' hg' with h' | ⟨h', h''⟩
   ·obtain ⟨s1, s2, s3, s4⟩ := hgone g' h'
    exact ⟨s1, Nat.lt_of_lt_of_le s2 hext.size, s3, s4⟩
   ·refine ⟨fun hk => by have := R.base.Flt _ hk; omega, h'', .inl (Nat.le_trans R.base.size h'), fun l hl => ?_⟩
    have hl' : blk G st l = some g' := by
     by_cases e : l = .rw r
     ·subst e; simp [blk] at hl
     ·cases l <;> simp only [blk] at hl ⊢ <;> first | (rw [bH _ _ (Ne.symm e)] at hl; exact hl) | exact hl
    have := (R.own l _ hl').2.1
    omega
  ·cases h9
theorem Flat.take {F : Nat → Prop} {ks xs cs} (h : Flat F w ks xs cs) (n : Nat) : Flat F w ks (xs.take n) (cs.take (n * ks.length)) := by
 refine ⟨fun el hel => h.1 el (List.mem_of_mem_take hel), fun j el i d k h1 h2 h3 => ?_⟩
 have hj : j < n := by have := (List.getElem?_eq_some_iff.1 h1).1; simp at this; omega
 rw [List.getElem?_take, if_pos hj] at h1
 obtain ⟨u, hu, hd⟩ := h.2 j el i d k h1 h2 h3
 have hi := (List.getElem?_eq_some_iff.1 h3).1
 have : (j + 1) * ks.length ≤ n * ks.length := Nat.mul_le_mul_right _ hj
 rw [Nat.add_mul] at this
 exact ⟨u, by rw [List.getElem?_take, if_pos (by omega)]; exact hu, hd⟩
theorem Flat.drop {F : Nat → Prop} {ks xs cs} (h : Flat F w ks xs cs) (n : Nat) : Flat F w ks (xs.drop n) (cs.drop (n * ks.length)) := by
 refine ⟨fun el hel => h.1 el (List.mem_of_mem_drop hel), fun j el i d k h1 h2 h3 => ?_⟩
 rw [List.getElem?_drop] at h1
 obtain ⟨u, hu, hd⟩ := h.2 (n + j) el i d k h1 h2 h3
 exact ⟨u, by rw [List.getElem?_drop, ← hu]; congr 1; rw [Nat.add_mul]; omega, hd⟩
theorem anL (R : Rel X G st a w) {r : Nat} {ks e by_ xs} (hr : st (.rw r) = .row ks e by_ xs false) {g c : Nat} {cur : Array Value} (hv : G.rv r = .slice (some ⟨g, 0, none⟩) xs.length c) (hc0 : 0 < c) (hh : w.heap[g]? = some (.cells cur e (0, 0)))
  {xs' : List (List D)} {cur' : List Value} (hl : xs'.length = xs.length) (hcl : cur'.length = cur.size) (hfl : Flat G.F w ks xs' cur') :
  Rel X G (st.upd (.rw r) (.row ks e by_ xs' false)) a (w.setRow g ⟨cur'⟩) := by
 obtain ⟨q1, q2, q3, ⟨q4, q6⟩, q5⟩ := R.rw r _ _ _ _ _ hr
 have hb : rowBlk (G.rv r) = some g := by rw [hv]; simp [rowBlk]; omega
 have hx : sK (rowBlk (G.rv r)) w (w.setRow g ⟨cur'⟩) := ⟨rfl, rfl, rfl, by simp, fun k hk hn => setRow_other w g k _ (fun e => hn (by rw [hb, e]))⟩
 obtain ⟨R1, hg⟩ := R.amP hr hx
 have hgF := hg g hb
 have hs : uY G.F w (w.setRow g ⟨cur'⟩) := fun k hk => setRow_other w g k _ (fun e => by subst e; exact hgF.1 hk)
 rw [← ayd st (.rw r) .gone]
 refine R1.ayH (by simp) q3 q2 q1 ?_ (fun g' hg' => ?_)
 ·refine ⟨hfl.1, .inr ⟨g, c, ⟨cur'⟩, by rw [hv, hl], hc0, setRow_heap w g cur _ e _ hh, ?_, ?_, ?_, fun j el i d k h1 h2 h3 => ?_⟩⟩
  ·rcases q6 with ⟨b, h, _⟩ | ⟨g2, c2, cur2, h, _, _, h4, _⟩
   ·rw [hv] at h; injection h with e1 e2 e3; omega
   ·rw [hv] at h; injection h with e1 e2 e3; omega
  ·rcases q6 with ⟨b, h, _⟩ | ⟨g2, c2, cur2, h, _, _, h4, h5, _⟩
   ·rw [hv] at h; injection h with e1 e2 e3; omega
   ·rw [hv] at h; injection h with e1 e2 e3; omega
  ·rcases q6 with ⟨b, h, _⟩ | ⟨g2, c2, cur2, h, _, hh2, h4, h5, h6, _⟩
   ·rw [hv] at h; injection h with e1 e2 e3; omega
   ·rw [hv] at h; injection h with e1 e2 e3
    injection e1 with e1; injection e1 with e1
    subst e1; subst e3
    rw [hh] at hh2; injection hh2 with hh2; injection hh2 with hh2
    subst hh2
    simp only [List.size_toArray]; omega
  ·obtain ⟨u, hu, hd⟩ := hfl.2 j el i d k h1 h2 h3
   exact ⟨u, by simpa using hu, hd.mono (fun _ h => h) hs⟩
 ·obtain ⟨s1, s2, s3, s4⟩ := hg g' hg'
  exact ⟨s1, by simpa using s2, s3, s4⟩
theorem RowV.flat {F : Nat → Prop} {ks e xs g n c} (h : RowV F w ks e xs (.slice (some ⟨g, 0, none⟩) n c)) (hx : xs ≠ []) : ∃ cur, w.heap[g]? = some (.cells cur e (0, 0)) ∧ n = xs.length ∧ 0 < c ∧ xs.length ≤ c ∧ cur.size = c * ks.length ∧ Flat F w ks xs cur.toList := by
 obtain ⟨h1, h2⟩ := h
 rcases h2 with ⟨b, _, rfl⟩ | ⟨g2, c2, cur, h, hc, hh, h4, h5, h6, h7⟩
 ·exact absurd rfl hx
 ·injection h with e1 e2 e3
  injection e1 with e1; injection e1 with e1
  subst e1; subst e3
  exact ⟨cur, hh, e2, hc, h4, h6, h1, fun j el i d k q1 q2 q3 => by obtain ⟨u, hu, hd⟩ := h7 j el i d k q1 q2 q3; exact ⟨u, by simpa using hu, hd⟩⟩
theorem ais (R : Rel X G st a w) {r : Nat} {ks e by_ xs} (hr : st (.rw r) = .row ks e by_ xs false) {base : Option Addr} {lo : Nat} {zs : List (List D)} {us : List Value}
  (hz : Flat G.F w ks zs us) (hul : us.length = zs.length * ks.length) (hle : lo + zs.length ≤ xs.length)
  (hb : 0 < zs.length → ∀ g c, G.rv r = .slice (some ⟨g, 0, none⟩) xs.length c → base = some ⟨g, lo * ks.length, none⟩) :
  ∃ w', (∀ ad, base = some ad → (storeCells ad us).run P w = .ok () w') ∧ (base = none → w' = w) ∧
   Rel X G (st.upd (.rw r) (.row ks e by_ (xs.take lo ++ zs ++ xs.drop (lo + zs.length)) false)) a w' := by
 rcases Nat.eq_zero_or_pos zs.length with hz0 | hz0
 ·have hzs : zs = [] := List.eq_nil_of_length_eq_zero hz0
  subst hzs
  have hus : us = [] := List.eq_nil_of_length_eq_zero (by simpa using hul)
  subst hus
  refine ⟨w, fun ad _ => by simp [storeCells, pure], fun _ => rfl, ?_⟩
  simp only [List.append_nil, List.length_nil, Nat.add_zero, List.take_append_drop]
  rw [alj _ hr]; exact R
 ·obtain ⟨q1, q2, q3, ⟨q4, q6⟩, q5⟩ := R.rw r _ _ _ _ _ hr
  rcases q6 with ⟨b, hval, rfl⟩ | ⟨g, c, cur, hval, hc, hh, h4, h5, h6, h7⟩
  ·simp only [List.length_nil] at hle; omega
  ·have hbase := hb hz0 g c hval
   subst hbase
   have hfl : Flat G.F w ks xs cur.toList := ⟨q4, fun j el i d k z1 z2 z3 => by obtain ⟨u, hu, hd⟩ := h7 j el i d k z1 z2 z3; exact ⟨u, by simpa using hu, hd⟩⟩
   have hmul : (lo + zs.length) * ks.length ≤ cur.size := by rw [h6]; exact Nat.mul_le_mul_right _ (by omega)
   have hmul' : lo * ks.length + us.length = (lo + zs.length) * ks.length := by rw [hul, Nat.add_mul]
   have hst := run_storeCells_at P g (lo * ks.length) e us 0 cur w hh (by rw [Nat.add_zero, hmul']; exact hmul) (hz.one q2 hul)
   simp only [Nat.add_zero] at hst
   refine ⟨_, fun ad had => ?_, (fun h => nomatch h), anL R hr hval hc hh (xs' := xs.take lo ++ zs ++ xs.drop (lo + zs.length)) (cur' := cur.toList.take (lo * ks.length) ++ us ++ cur.toList.drop (lo * ks.length + us.length)) ?_ ?_ ?_⟩
   ·obtain rfl := Option.some.inj had
    exact hst
   ·simp; omega
   ·simp; omega
   ·rw [hmul']
    refine ((hfl.take lo).append hz ?_).append (hfl.drop _) ?_
    ·simp
     rw [Nat.min_eq_left (by omega), Nat.min_eq_left (by omega)]
    ·simp
     rw [Nat.min_eq_left (by omega), Nat.min_eq_left (by omega), hul, Nat.add_mul]
theorem avp {α : Type} (l : List α) (n : Nat) : l.take (min l.length n) = l.take n := by
 rcases Nat.le_total l.length n with h | h
 ·rw [Nat.min_eq_left h, List.take_of_length_le h, List.take_of_length_le (Nat.le_refl _)]
 ·rw [Nat.min_eq_right h]
theorem awN (EO : fS P E) {dst s x t ts ty pos af g} : OpS P E Γ ⟨dst, .call ⟨.builtin .copy, ⟨[s, x]⟩, ⟨t :: ts⟩⟩, ty, pos, af, g⟩ := by
 intro X G st a w tr po next Q h R hd _ hk _
 obtain ⟨v1, tr1, h1, hr1, h2⟩ := eP R (show prE Γ (ev s fun s => ev x fun x => gY E t fun _ ei => aqm s x ei.ks) st tr = some po from h)
 obtain ⟨v2, tr2, h3, hr2, h4⟩ := eP R h2
 obtain ⟨e, ei, hei, htu, h5⟩ := oV EO h4
 have hT := EO.ty e ei hei
 unfold aqm at h5
 obtain ⟨ks, ys, tr3, h6, hsrc⟩ := anO (P := P) R h3 h5
 obtain ⟨hc, h7⟩ := dF h6
 simp only [Bool.and_eq_true, Bool.not_eq_true'] at hc
 obtain rfl := gM hc.1
 have hk0 : 0 < ei.ks.length := by
  rcases hee : ei.ks with _ | ⟨k, kk⟩
  ·rw [hee] at hc; simp at hc
  ·simp
 obtain ⟨news, hx⟩ := hsrc hk0
 clear hsrc h6 h5 h4 h2 h
 have hz : (Go.sizeOf e).run P w = .ok ei.ks.length w := run_sizeOf hT
 have hrun : ∀ {v' : Value} {w' : World}, (Builtin.copy_ ⟨t :: ts⟩ ty #[a.eval s, a.eval x]).run P w = .ok v' w' → (execOp a.eval ⟨dst, .call ⟨.builtin .copy, ⟨[s, x]⟩, ⟨t :: ts⟩⟩, ty, pos, af, g⟩).run P w = .ok (.value v') w' := by
  intro v' w' hh
  simp only [execOp, resolve, invoke, builtin, Sem.run_bind, Sem.run_pure, Result.andThen_ok]
  have : (⟨[s, x]⟩ : Array Operand).map a.eval = #[a.eval s, a.eval x] := by simp
  rw [this, hh]; rfl
 have main : ∀ (base : Option Addr) (n c : Nat) (w' : World), (∀ ad, base = some ad → (storeCells ad (news.take (min ys.length n * ei.ks.length))).run P w = .ok () w') → (base = none → w' = w) →
   (Builtin.copy_ ⟨t :: ts⟩ ty #[.slice base n c, a.eval x]).run P w = .ok (.int .i64 (min ys.length n : Nat)) w' := by
  intro base n c w' hst hb
  have hxl := hx.len w
  have hfc := hx.fc (min ys.length n) (Nat.min_le_left _ _) w rfl
  have e1 : Nat.min ys.length n = min ys.length n := rfl
  cases base with
  | none => have := hb rfl; subst this; simp [Builtin.copy_, run_underlying htu, hxl, hz, hfc, goInt, e1, pure]
  | some ad => have := hst ad rfl; simp [Builtin.copy_, run_underlying htu, hxl, hz, hfc, goInt, e1, this, pure]
 have hflat : ∀ n, Flat G.F w ei.ks (ys.take n) (news.take (min ys.length n * ei.ks.length)) := fun n => by
  have := hx.flat.take (min ys.length n)
  rwa [avp] at this
 have hfl : ∀ n, (news.take (min ys.length n * ei.ks.length)).length = (ys.take n).length * ei.ks.length := fun n => by
  have h1 : min ys.length n * ei.ks.length ≤ ys.length * ei.ks.length := Nat.mul_le_mul_right _ (Nat.min_le_left _ _)
  simp only [List.length_take, hx.nl]
  rw [Nat.min_eq_left h1, Nat.min_comm]
 generalize hus : a.eval s = us at h1 hrun
 cases h1 <;> simp only at h7 <;> first | exact (bX h7).elim | skip
 case nil b =>
  have := iQ h7; subst this
  refine kE (hrun (main b 0 0 w (fun ad _ => by simp [storeCells, pure]) (fun _ => rfl))) (hk _ _ _ rfl _ _ _ (R.putDst hd ?_ yR))
  simpa using AVR.mkInt (G := G) (w := w) .i64 0
 case row r =>
  simp only [prE] at h7
  split at h7
  ·rename_i ks' e' by_ xs hrr
   obtain ⟨hkk, h8⟩ := dF h7
   obtain rfl := gM hkk
   simp only [prE] at h8
   obtain rfl := Option.some.inj h8.symm
   obtain ⟨q1, q2, q3, ⟨q4, q6⟩, q5⟩ := R.rw r _ _ _ _ _ hrr
   obtain ⟨base, c, hval⟩ : ∃ base c, G.rv r = .slice base xs.length c := by
    rcases q6 with ⟨b, hval, rfl⟩ | ⟨g, c, cur, hval, _⟩
    ·exact ⟨b, 0, hval⟩
    ·exact ⟨_, c, hval⟩
   obtain ⟨w', k1, k2, k3⟩ := ais (P := P) R hrr (base := base) (lo := 0) (hflat xs.length) (hfl _) (by simp; omega) (fun _ g c' hv => by
    rw [hval] at hv; injection hv with e1; rw [e1, Nat.zero_mul])
   refine kE (hrun (by rw [hval]; exact main base _ c w' k1 k2)) (hk _ _ _ rfl G _ _ (Rel.putDst ?_ hd (AVR.mkInt _ _) yR))
   simp only [List.take_zero, List.nil_append, Nat.zero_add, List.length_take] at k3
   rw [Nat.min_comm] at k3
   exact k3
  ·cases h7
 case win r lo n b a' n0 c0 c' hv hn hc' ha =>
  simp only [prE] at h7
  split at h7
  ·rename_i ks' e' by_ xs hrr
   obtain ⟨hkk, h8⟩ := dF h7
   obtain rfl := gM hkk
   simp only [prE] at h8
   obtain rfl := Option.some.inj h8.symm
   obtain ⟨q1, q2, q3, ⟨q4, q6⟩, q5⟩ := R.rw r _ _ _ _ _ hrr
   have hn0 : n0 = xs.length := by
    rcases q6 with ⟨b, hval, rfl⟩ | ⟨g, c, cur, hval, _⟩ <;> rw [hval] at hv <;> injection hv with e1 e2 <;> exact e2.symm
   obtain ⟨w', k1, k2, k3⟩ := ais (P := P) R hrr (base := a') (lo := lo) (hflat n) (hfl _) (by simp; omega) (fun hpos g c' hv' => by
    rw [hv] at hv'; injection hv' with e1
    have hnp : 0 < n := by simp at hpos; omega
    have := ha hnp _ e1
    rw [this, q1, add_lit, Nat.zero_add])
   refine kE (hrun (main a' _ c' w' k1 k2)) (hk _ _ _ rfl G _ _ (Rel.putDst ?_ hd (AVR.mkInt _ _) yR))
   simp only [List.length_take] at k3
   rw [Nat.min_comm] at k3
   exact k3
  ·cases h7
end
end PX
set_option linter.unusedVariables false
set_option linter.unusedSimpArgs false
namespace PX
open Go
section
variable {P : Program} {E : Env} {Γ : Fun} {X : Ctx} {G : Gh} {st : Sto} {a : Act} {w : World} {tr : Tr} {po : PO}
 {next : Act → World → Prop} {Q : Exit → Act → World → Prop} {o : Oper}
theorem atE {F : Nat → Prop} (k : CK) (h : k.isData = true) : DR F w k k.zP k.zeroV := by
 cases k <;> first | exact .int _ _ | exact .bool _ | exact .str _ | skip
 case sl ks =>
  rw [CK.isData, abk] at h
  exact .sl ks [] none 0 (fun _ _ => undef) (by simp) (by simp) (by simp) h (by simp) (by simp)
 all_goals simp [CK.isData] at h
theorem aor (z : List Value) {n q : Nat} (hq : q < n) (h0 : 0 < z.length) : (madeCells ⟨z⟩ n)[q]? = z[q % z.length]? := by
 have hm : q % z.length < z.length := Nat.mod_lt _ h0
 simp [madeCells, hq, getElem!_def, List.getElem?_eq_getElem hm]
theorem alB {F : Nat → Prop} {ks : List CK} (hk : ks.all CK.isData = true) (h0 : 0 < ks.length) {n c : Nat} (hnc : n ≤ c) :
  Flat F w ks (List.replicate n (ks.map CK.zP)) (madeCells ⟨ks.map CK.zeroV⟩ (c * ks.length)).toList := by
 refine ⟨fun el hel => by rw [List.eq_of_mem_replicate hel]; simp, fun j el i d k h1 h2 h3 => ?_⟩
 have hj : j < n := by have := (List.getElem?_eq_some_iff.1 h1).1; simpa using this
 have hi := (List.getElem?_eq_some_iff.1 h3).1
 rw [List.getElem?_replicate, if_pos hj] at h1
 obtain rfl := Option.some.inj h1
 rw [List.getElem?_map, h3] at h2
 obtain rfl : k.zP = d := by simpa using h2
 have hlt : j * ks.length + i < c * ks.length := by
  have : (j + 1) * ks.length ≤ c * ks.length := Nat.mul_le_mul_right _ (by omega)
  rw [Nat.add_mul] at this; omega
 refine ⟨k.zeroV, ?_, atE k ((List.all_eq_true.1 hk) k (List.mem_of_getElem? h3))⟩
 rw [Array.getElem?_toList, aor _ hlt (by simpa using h0)]
 simp only [List.length_map]
 rw [Nat.mul_comm, Nat.mul_add_mod, Nat.mod_eq_of_lt hi, List.getElem?_map, h3]
 rfl
theorem Flat.aBE {F : Nat → Prop} {ks xs e} {cur : Array Value} {g c : Nat} (h : Flat F w ks xs cur.toList) (hh : w.heap[g]? = some (.cells cur e (0, 0))) (hlc : xs.length ≤ c) (hcm : c ≤ maxLen) (hsz : cur.size = c * ks.length) :
  RowV F w ks e xs (.slice (some ⟨g, 0, none⟩) xs.length c) := by
 refine ⟨h.1, ?_⟩
 rcases Nat.eq_zero_or_pos c with rfl | hc
 ·have : xs = [] := List.eq_nil_of_length_eq_zero (by omega)
  subst this
  exact .inl ⟨_, rfl, rfl⟩
 ·exact .inr ⟨g, c, cur, rfl, hc, hh, hlc, hcm, hsz, fun j el i d k h1 h2 h3 => by obtain ⟨u, hu, hd⟩ := h.2 j el i d k h1 h2 h3; exact ⟨u, by simpa using hu, hd⟩⟩
theorem al7 {g n c : Nat} {k : Nat} (h : rowBlk (.slice (some ⟨g, 0, none⟩) n c) = some k) : k = g := by
 unfold rowBlk at h
 simp only at h
 split at h
 ·cases h
 ·exact (Option.some.inj h).symm
theorem aoq (EO : fS P E) {dst t l c ty pos af g} : OpS P E Γ ⟨dst, .makeSlice t l c, ty, pos, af, g⟩ := by
 intro X G st a w tr po next Q h R hd _ hk _
 obtain ⟨v1, tr1, h1, hr1, h2⟩ := eP R (show prE Γ (ev l fun l => asN l fun l => ev c fun c => asN c fun c => gY E t fun e ei =>
   .chk (decide (0 ≤ l) && decide (l ≤ c) && decide (c * ei.bytes ≤ 281474976710656)) (if Nat.beq ei.bytes 0 then .fail else newRow (dst.getD 9999) ei.ks e ei.bytes (List.replicate l.toNat (ei.ks.map CK.zP)))) st tr = some po from h)
 obtain ⟨kl, ln, rfl, h3⟩ := agQ h2
 obtain ⟨v2, tr2, h4, _, h5⟩ := eP R h3
 obtain ⟨kc, cn, rfl, h6⟩ := agQ h5
 obtain ⟨e, ei, hei, htu, h7⟩ := oV EO h6
 obtain ⟨hc, h8⟩ := iW h7
 obtain ⟨hb, h9⟩ := adR h8
 obtain ⟨hk1, hk0, hf, tr', rfl⟩ := abG h9
 have hT := EO.ty e ei hei
 obtain ⟨inf, hinf, hsize, hbytes, z, hz, hzc⟩ := hT.info
 simp only [Bool.and_eq_true, decide_eq_true_eq] at hc
 obtain ⟨⟨hc0, hlc⟩, hcb⟩ := hc
 have hb0 : ei.bytes ≠ 0 := fun e => hb (by rw [e]; rfl)
 have hcm : cn ≤ 281474976710656 := by
  have : cn * 1 ≤ cn * (ei.bytes : Int) := Int.mul_le_mul_of_nonneg_left (by omega) (by omega)
  omega
 have hr := run_make (P := P) w t e inf z htu hinf hz kl kc ln cn hc0 hlc (by rw [hbytes, Int.mul_comm]; exact hcb) (by omega)
 rw [hzc, hsize] at hr
 have hrun := aae hr
 rw [← h1.nR, ← h4.nR] at hrun
 have hlen : (List.replicate ln.toNat (ei.ks.map CK.zP)).length = ln.toNat := by simp
 have hE := Ext.alloc w (.cells (madeCells ⟨ei.ks.map CK.zeroV⟩ (cn.toNat * ei.ks.length)) e)
 refine kE hrun (hk _ _ _ rfl _ _ _ (ago rfl (R.ext hE) hd hf hk1 hk0 (v := .slice (some ⟨w.heap.size, 0, none⟩) ln.toNat cn.toNat) ?_ (fun k hk => ?_)))
 ·have := (alB (F := G.F) (w := w.alloc (.cells (madeCells ⟨ei.ks.map CK.zeroV⟩ (cn.toNat * ei.ks.length)) e)) hk1 hk0 (n := ln.toNat) (c := cn.toNat) (by omega)).aBE (e := e) (g := w.heap.size) (c := cn.toNat) (heap_alloc_new w _) (by rw [hlen]; omega) (by simp only [maxLen]; omega) (by simp [size_madeCells])
  rwa [hlen] at this
 ·obtain rfl := al7 hk
  exact aoX R hE (Nat.le_refl _) (by simp)
theorem DRs.flat {F : Nat → Prop} {ks ds vs} (h : DRs F w ks ds vs) : Flat F w ks [ds] vs := by
 refine ⟨by simp [h.len.1], fun j el i d k h1 h2 h3 => ?_⟩
 have hj : j = 0 := by have := (List.getElem?_eq_some_iff.1 h1).1; simpa using this
 subst hj
 obtain rfl : ds = el := by simpa using h1
 obtain ⟨u, hu, hd⟩ := h.get h2 h3
 exact ⟨u, by simpa using hu, hd⟩
theorem Flat.set {F : Nat → Prop} {ks xs cs ds vs} (h : Flat F w ks xs cs) (hl : cs.length = xs.length * ks.length) (k : DRs F w ks ds vs) {i : Nat} (hi : i < xs.length) :
  Flat F w ks (xs.set i ds) (cs.take (i * ks.length) ++ vs ++ cs.drop (i * ks.length + vs.length)) := by
 have e1 : xs.set i ds = xs.take i ++ [ds] ++ xs.drop (i + 1) := by
  rw [List.set_eq_take_append_cons_drop, if_pos hi]; simp
 have hm : i * ks.length ≤ xs.length * ks.length := Nat.mul_le_mul_right _ (by omega)
 rw [e1, k.len.2, show i * ks.length + ks.length = (i + 1) * ks.length by rw [Nat.add_mul]; omega]
 refine ((h.take i).append k.flat ?_).append (h.drop _) ?_
 ·simp; rw [Nat.min_eq_left (by omega), Nat.min_eq_left (by omega)]
 ·simp [k.len.2]; rw [Nat.min_eq_left (by omega), Nat.min_eq_left (by omega), Nat.add_mul]; omega
theorem axe {ks : List CK} {n : Nat} : ∀ {l : List (Nat × AV)} {us : List Value} {c : List (Nat × List D) → Pr} {G : Gh} {st : Sto} {tr : Tr}, Rel X G st a w → AVRs G w (l.map (·.2)) us → prE Γ (ajs ks n l c) st tr = some po →
  ∃ G' st' l' tr', Rel X G' st' a w ∧ GLe G G' ∧ SLe st st' ∧ prE Γ (c l') st' tr' = some po ∧
   ∀ (xs : List (List D)) (cur : Array Value), Flat G'.F w ks xs cur.toList → xs.length = n → cur.size = n * ks.length →
    ∃ cur', Instr.fill (fun i => some (i * ks.length, ks.length)) cur ((l.map (·.1)).zip us) = some cur' ∧ cur'.size = n * ks.length ∧ Flat G'.F w ks (aiu xs l') cur'.toList ∧ (aiu xs l').length = n
 | [], us, c, G, st, tr, R, hu, h => by
  cases hu
  exact ⟨G, st, [], tr, R, .refl _, .refl _, h, fun xs cur hf hx hc => ⟨cur, by simp [Instr.fill], hc, hf, hx⟩⟩
 | (i, x) :: l, us, c, G, st, tr, R, hu, h => by
  cases hu with
  | cons _ u _ us hxu hus =>
   obtain ⟨hi, h1⟩ := dF (show prE Γ (if Nat.blt i n then aef ks (cellsOf x) fun ds => ajs ks n l fun l' => c ((i, ds) :: l') else .fail) st tr = some po from h)
   have hin : i < n := Nat.le_of_ble_eq_true hi
   obtain ⟨G1, st1, ds, tr1, R1, g1, s1, hds, h2⟩ := al0 R hxu h1
   obtain ⟨G2, st2, l', tr2, R2, g2, s2, h3, hfin⟩ := axe R1 (g1.acr hus) h2
   refine ⟨G2, st2, (i, ds) :: l', tr2, R2, g1.trans g2, s1.trans s2, h3, fun xs cur hf hx hc => ?_⟩
   have hds' := hds.mono g2.F (fun _ _ => rfl)
   have husz : u.cells.size = ks.length := by simpa using hds.len.2
   have hle : (i + 1) * ks.length ≤ n * ks.length := Nat.mul_le_mul_right _ hin
   rw [Nat.add_mul] at hle
   have hset := alX cur (i * ks.length) u.cells (by omega)
   have hfl := hf.set (by simp [hc, hx]) hds' (i := i) (by omega)
   obtain ⟨cur', k1, k2, k3, k4⟩ := hfin (xs.set i ds) ⟨cur.toList.take (i * ks.length) ++ u.cells.toList ++ cur.toList.drop (i * ks.length + u.cells.toList.length)⟩ hfl (by simp [hx]) (by simp; omega)
   refine ⟨cur', ?_, k2, k3, k4⟩
   simp only [List.map_cons, List.zip_cons_cons, Instr.fill]
   rw [if_neg (by simp; omega)]
   rw [hset]
   simpa using k1
theorem amZ (EO : fS P E) {dst t n ps ty pos af g} : OpS P E Γ ⟨dst, .buildSlice t n ps, ty, pos, af, g⟩ := by
 intro X G st a w tr po next Q h R hd _ hk _
 obtain ⟨e, ei, hei, htu, h1⟩ := oV EO (show prE Γ (gY E t fun e ei => aew ps.toList fun l => if !(Nat.ble (n * ei.ks.length) 16777216) then .fail else ajs ei.ks n l fun l' =>
   newRow (dst.getD 9999) ei.ks e ei.bytes (aiu (List.replicate n (ei.ks.map CK.zP)) l')) st tr = some po from h)
 obtain ⟨l, tr1, h2, h3, h4, h5⟩ := aho R h1
 obtain ⟨hc, h6⟩ := adR h2
 have hn : n * ei.ks.length ≤ 16777216 := by
  simp only [Bool.not_eq_true', Bool.not_eq_false] at hc
  exact Nat.le_of_ble_eq_true hc
 obtain ⟨G', st', l', tr2, R', gl, sl, h7, hfin⟩ := axe R h4 h6
 obtain ⟨hk1, hk0, hf, tr', rfl⟩ := abG h7
 have hT := EO.ty e ei hei
 obtain ⟨inf, hinf, hsize, hbytes, z, hz, hzc⟩ := hT.info
 have hn' : n ≤ 16777216 := Nat.le_trans (Nat.le_mul_of_pos_right n hk0) hn
 obtain ⟨cur', k1, k2, k3, k4⟩ := hfin _ (madeCells ⟨ei.ks.map CK.zeroV⟩ (n * ei.ks.length)) (alB hk1 hk0 (Nat.le_refl n)) (by simp) (size_madeCells _ _)
 have hz2 : (l.map (·.1)).zip (ps.toList.map fun p => a.eval p.2) = (ps.map fun (x : Nat × Operand) => (x.1, a.eval x.2)).toList := by
  rw [h3]
  simp only [Array.toList_map]
  generalize ps.toList = pl
  clear k1 k2 k3 k4 hfin h1 h2 h3 h4 h5 h6 h7 h
  induction pl with
  | nil => rfl
  | cons p pl ih => simp [ih]
 rw [hz2] at k1
 have hr : (Instr.buildSlice t n (ps.map fun (i, x) => (i, a.eval x))).run P w = .ok (.slice (some ⟨w.heap.size, 0, none⟩) n n) (w.alloc (.cells cur' e)) := by
  have hsz : (Go.sizeOf e).run P w = .ok ei.ks.length w := run_sizeOf hT
  have hng : ¬ (2 ^ 24 < n * ei.ks.length) := by omega
  unfold Instr.buildSlice
  simp only [Sem.run_bind, run_underlying htu, Result.andThen_ok, hsz]
  rw [if_neg (by omega)]
  have hmd : madeCells ⟨ei.ks.map CK.zeroV⟩ (n * ei.ks.length) = (Array.range (n * ei.ks.length)).map (fun x => (⟨ei.ks.map CK.zeroV⟩ : Array Value)[x % (⟨ei.ks.map CK.zeroV⟩ : Array Value).size]!) := rfl
  by_cases h0 : n * ei.ks.length = 0
  ·rw [if_pos h0]
   rw [hmd, h0] at k1
   simp only [Sem.run_bind, Sem.run_pure, Result.andThen_ok, h0]
   have : (Array.range 0).map (fun x => (#[] : Array Value)[x % (#[] : Array Value).size]!) = (Array.range 0).map (fun x => (⟨ei.ks.map CK.zeroV⟩ : Array Value)[x % (⟨ei.ks.map CK.zeroV⟩ : Array Value).size]!) := by simp
   simp only [pure, Sem.run_pure, Result.andThen_ok]
   rw [this, k1]
   simp [Go.newRow, Sem.run_bind]
  ·rw [if_neg h0]
   rw [hmd] at k1
   have hzv : (zeroValue e).run P w = .ok z w := by simp [zeroValue, typeInfo, hinf, hz]
   simp only [Sem.run_bind, hzv, Result.andThen_ok, Sem.run_pure, hzc]
   rw [k1]
   simp [Go.newRow, Sem.run_bind, pure]
 have hE := Ext.alloc w (.cells cur' e)
 refine kE (aae hr) (hk _ _ _ rfl _ _ _ (ago rfl (R'.ext hE) hd hf hk1 hk0 (v := .slice (some ⟨w.heap.size, 0, none⟩) n n) ?_ (fun k hk => ?_)))
 ·have := (k3.mono (F' := G'.F) (w' := w.alloc (.cells cur' e)) (fun _ h => h) (fun k hk => hE.keep k (R'.base.Flt _ hk))).aBE (e := e) (g := w.heap.size) (c := n) (heap_alloc_new w _) (by omega) (by simp only [maxLen]; omega) k2
  rwa [k4] at this
 ·obtain rfl := al7 hk
  exact aoX R' hE (Nat.le_refl _) (by simp)
theorem afu {t : TypeId} {ti : TI} (hT : TyOK P t ti) {ad : Addr} {v : Value} {w' : World} (hn : v.cells.size = ti.ks.length) (h : (storeCells ad v.cells.toList).run P w = .ok () w') :
  (Instr.storeAt t (.pointer (some ad)) v).run P w = .ok () w' := by
 simp [Instr.storeAt, Instr.sureAddr, storeVar, run_sizeOf hT, hn, h]
theorem avU {F : Nat → Prop} {ks xs} {cur : List Value} (h : Flat F w ks xs cur) {i off m : Nat} {kt : List CK} {ds : List D} {vs : List Value} (hd : DRs F w kt ds vs) (hkt : (ks.drop off).take m = kt) (hm : kt.length = m) (hle : off + m ≤ ks.length) (hi : i < xs.length)
  (hcl : i * ks.length + ks.length ≤ cur.length) :
  Flat F w ks (xs.set i ((elemAt xs i).take off ++ ds ++ (elemAt xs i).drop (off + ds.length))) (cur.take (i * ks.length + off) ++ vs ++ cur.drop (i * ks.length + off + vs.length)) := by
 have hdl : ds.length = m := by rw [hd.len.1, hm]
 have hvl : vs.length = m := by rw [hd.len.2, hm]
 have hel : elemAt xs i = xs[i] := by simp [elemAt, hi]
 have hell : xs[i].length = ks.length := h.1 _ (List.getElem_mem hi)
 have hget : xs[i]? = some xs[i] := List.getElem?_eq_getElem hi
 rw [hel, hdl, hvl]
 have htl : (cur.take (i * ks.length + off)).length = i * ks.length + off := by simp; omega
 have out1 : ∀ q, q < i * ks.length + off → (cur.take (i * ks.length + off) ++ vs ++ cur.drop (i * ks.length + off + m))[q]? = cur[q]? := by
  intro q hq
  rw [List.append_assoc, List.getElem?_append_left (by omega), List.getElem?_take, if_pos hq]
 have out2 : ∀ q, i * ks.length + off + m ≤ q → (cur.take (i * ks.length + off) ++ vs ++ cur.drop (i * ks.length + off + m))[q]? = cur[q]? := by
  intro q hq
  rw [List.append_assoc, List.getElem?_append_right (by omega), htl, List.getElem?_append_right (by omega), List.getElem?_drop]
  congr 1; omega
 have out3 : ∀ q, q < m → (cur.take (i * ks.length + off) ++ vs ++ cur.drop (i * ks.length + off + m))[i * ks.length + off + q]? = vs[q]? := by
  intro q hq
  rw [List.append_assoc, List.getElem?_append_right (by omega), htl, List.getElem?_append_left (by omega)]
  congr 1; omega
 refine ⟨fun el hmem => ?_, fun j el i' d k h1 h2 h3 => ?_⟩
 ·rcases List.mem_or_eq_of_mem_set hmem with hmem | rfl
  ·exact h.1 el hmem
  ·simp [hell, hdl]; omega
 ·have hi' := (List.getElem?_eq_some_iff.1 h3).1
  rw [List.getElem?_set] at h1
  by_cases hij : i = j
  ·subst hij
   simp only [if_true, hi] at h1
   obtain rfl := Option.some.inj h1
   have htk : (xs[i].take off).length = off := by simp; omega
   by_cases c1 : i' < off
   ·rw [List.append_assoc, List.getElem?_append_left (by omega), List.getElem?_take, if_pos c1] at h2
    obtain ⟨u, hu, hdr⟩ := h.2 i _ i' d k hget h2 h3
    exact ⟨u, by rw [out1 _ (by omega)]; exact hu, hdr⟩
   ·by_cases c2 : i' < off + m
    ·rw [List.append_assoc, List.getElem?_append_right (by omega), htk, List.getElem?_append_left (by omega)] at h2
     have h3' : kt[i' - off]? = some k := by
      rw [← hkt, List.getElem?_take, if_pos (by omega), List.getElem?_drop, ← h3]
      congr 1; omega
     obtain ⟨u, hu, hdr⟩ := hd.get h2 h3'
     refine ⟨u, ?_, hdr⟩
     have := out3 (i' - off) (by omega)
     rw [← hu, ← this]
     congr 1; omega
    ·rw [List.append_assoc, List.getElem?_append_right (by omega), htk, List.getElem?_append_right (by omega), List.getElem?_drop] at h2
     rw [show off + m + (i' - off - ds.length) = i' by omega] at h2
     obtain ⟨u, hu, hdr⟩ := h.2 i _ i' d k hget h2 h3
     exact ⟨u, by rw [out2 _ (by omega)]; exact hu, hdr⟩
  ·rw [if_neg hij] at h1
   obtain ⟨u, hu, hdr⟩ := h.2 j el i' d k h1 h2 h3
   refine ⟨u, ?_, hdr⟩
   rcases Nat.lt_or_gt_of_ne hij with hlt | hlt
   ·have := Nat.mul_le_mul_right ks.length (show i + 1 ≤ j from hlt)
    rw [Nat.add_mul] at this
    rw [out2 _ (by omega)]; exact hu
   ·have := Nat.mul_le_mul_right ks.length (show j + 1 ≤ i from hlt)
    rw [Nat.add_mul] at this
    rw [out1 _ (by omega)]; exact hu
theorem auk (EO : fS P E) {dst t x y ty pos af g} : OpS P E Γ ⟨dst, .store t x y, ty, pos, af, g⟩ := by
 intro X G st a w tr po next Q h R hd _ hk _
 obtain ⟨v1, tr1, h1, hr1, h2⟩ := eP R (show prE Γ (ev x fun a => ev y fun v => gN E t fun ti => am0 ti a v) st tr = some po from h)
 obtain ⟨v2, tr2, h3, hr2, h4⟩ := eP R h2
 obtain ⟨ti, hti, h5⟩ := fV h4
 have hT := EO.ty t ti hti
 clear h4 h2 h
 have hrun : ∀ {w' : World}, (Instr.storeAt t (a.eval x) (a.eval y)).run P w = .ok () w' → (execOp a.eval ⟨dst, .store t x y, ty, pos, af, g⟩).run P w = .ok .skip w' := by
  intro w' hh
  simp only [execOp, Sem.run_bind, hh, Result.andThen_ok, Sem.run_pure, pure]
  rfl
 generalize hux : a.eval x = ux at h1 hrun
 cases h1 <;> simp only [am0] at h5 <;> first | exact (bX h5).elim | skip
 case ptr b off =>
  obtain ⟨hc, h6⟩ := dF h5
  simp only [Bool.and_eq_true] at hc
  have hlen := Nat.eq_of_beq_eq_true hc.1
  obtain ⟨tr3, hex, h7⟩ := abP h6
  have := iQ h7; subst this
  have hcs : AVRs G w (cellsOf v2) (a.eval y).cells.toList := afe h3 (akd hc.2) R.rv1
  have hul : (a.eval y).cells.toList.length = (cellsOf v2).length := hcs.length.symm
  have hsz : (a.eval y).cells.size = ti.ks.length := by rw [← hlen, ← hul]; simp
  have hone : ∀ u ∈ (a.eval y).cells.toList, u.oneCell' = true := by
   intro u hu
   obtain ⟨i, hi, rfl⟩ := List.getElem_of_mem hu
   have hi' : i < (cellsOf v2).length := by omega
   obtain ⟨u', h8, h9⟩ := hcs.get (List.getElem?_eq_getElem hi')
   rw [List.getElem?_eq_getElem hi] at h8
   obtain rfl := Option.some.inj h8
   exact h9.zQ ((List.all_eq_true.1 hc.2) _ (List.getElem_mem hi')) R.rv1
  rcases Nat.eq_zero_or_pos (cellsOf v2).length with h0 | h0
  ·have e1 : cellsOf v2 = [] := List.eq_nil_of_length_eq_zero h0
   have e2 : (a.eval y).cells.toList = [] := List.eq_nil_of_length_eq_zero (by omega)
   refine akO (w' := w) (hrun (afu hT hsz (by rw [e2]; simp [storeCells, pure]))) (hk _ _ _ rfl G _ _ (Rel.putDst ?_ hd (.dead _) (by simp [AV.refs])))
   rw [e1]; exact R
  ·obtain ⟨x0, hx0⟩ := hex 0 h0
   obtain ⟨t', n, cur, u0, hb, hh, _⟩ := R.bc _ _ _ hx0
   have hfit : off + (cellsOf v2).length ≤ cur.size := by
    obtain ⟨x1, hx1⟩ := hex ((cellsOf v2).length - 1) (by omega)
    obtain ⟨t2, n2, cur2, u2, hb2, hh2, hu2, _⟩ := R.bc _ _ _ hx1
    rw [hh] at hh2; injection hh2 with hh2; injection hh2 with hh2; subst hh2
    have := (Array.getElem?_eq_some_iff.1 hu2).1
    omega
   have hst := run_storeCells_at P (G.bb b) off t' (a.eval y).cells.toList 0 cur w hh (by omega) hone
   simp only [Nat.add_zero] at hst
   exact akO (hrun (afu hT hsz hst)) (hk _ _ _ rfl G _ _ ((R.apJ hb hh hcs hc.2 (by rw [adX]; exact hr2) hfit hex).putDst hd (.dead _) (by simp [AV.refs])))
 case rp r i off gb n c hv hi =>
  obtain ⟨G1, st1, ds, tr3, R1, g1, s1, hds, h6⟩ := al0 R h3 h5
  simp only [prE] at h6
  split at h6
  ·rename_i ks e by_ xs hrr
   obtain ⟨hc, h7⟩ := dF h6
   simp only [Bool.and_eq_true] at hc
   have hle := Nat.le_of_ble_eq_true hc.1
   have hkt := gM hc.2
   simp only [prE] at h7
   obtain rfl := Option.some.inj h7.symm
   obtain ⟨q1, q2, q3, ⟨q4, q6⟩, q5⟩ := R1.rw r _ _ _ _ _ hrr
   have hv1 : G1.rv r = .slice (some ⟨gb, 0, none⟩) n c := by rw [g1.rv]; exact hv
   have hrs : G.rs r = ks.length := by rw [← g1.rs]; exact q1
   rcases q6 with ⟨b, hval, rfl⟩ | ⟨g', c', cur, hval, hcc, hh, z4, z5, z6, z7⟩
   ·rw [hv1] at hval; injection hval with e1 e2 e3; omega
   ·have hval' := hval
    rw [hv1] at hval; injection hval with e1 e2 e3
    injection e1 with e1; injection e1 with e1
    subst e1; subst e3; subst e2
    have hfl : Flat G1.F w ks xs cur.toList := ⟨q4, fun j el i d k p1 p2 p3 => by obtain ⟨u, hu, hd⟩ := z7 j el i d k p1 p2 p3; exact ⟨u, by simpa using hu, hd⟩⟩
    have hic : i * ks.length + ks.length ≤ cur.size := by
     have := Nat.mul_le_mul_right ks.length (show i + 1 ≤ c by omega)
     rw [Nat.add_mul] at this; omega
    have hvl : (a.eval y).cells.toList.length = ti.ks.length := hds.len.2
    have hsz : (a.eval y).cells.size = ti.ks.length := by simpa using hvl
    have hst := run_storeCells_at P gb (i * ks.length + off) e (a.eval y).cells.toList 0 cur w hh (by omega) hds.zQ
    simp only [Nat.add_zero] at hst
    have hfl' := avU (ds := ds) (vs := (a.eval y).cells.toList) (i := i) (off := off) (m := ti.ks.length) hfl hds hkt rfl hle hi (by simpa using hic)
    rw [hrs] at hrun
    refine akO (hrun (afu hT hsz hst)) (hk _ _ _ rfl G1 _ _ (Rel.putDst (anL R1 hrr hval' hcc hh (xs' := xs.set i ((elemAt xs i).take off ++ ds ++ (elemAt xs i).drop (off + ds.length)))
     (cur' := cur.toList.take (i * ks.length + off) ++ (a.eval y).cells.toList ++ cur.toList.drop (i * ks.length + off + (a.eval y).cells.toList.length)) (by simp) ?_ hfl') hd (.dead _) (by simp [AV.refs])))
    simp; omega
  ·cases h6
theorem att {dst x ty pos af g} : OpS P E Γ ⟨dst, .panic x, ty, pos, af, g⟩ := by
 intro X G st a w tr po next Q h R hd _ _ hp
 obtain ⟨v1, tr1, h1, hr1, h2⟩ := eP R (show prE Γ (ev x fun | .ifc t v => .pan (.ifc t v) | _ => .fail) st tr = some po from h)
 generalize hux : a.eval x = ux at h1
 cases h1 <;> simp only at h2 <;> first | exact (bX h2).elim | skip
 case ifc t v u hv =>
  simp only [prE] at h2
  obtain rfl := Option.some.inj h2.symm
  refine atz (u := .iface t u) (w' := w) ?_ (hp _ rfl _ _ ⟨G, _, rfl, .ifc t v u hv, R.base⟩)
  simp [execOp, hux, Instr.panic, goPanic]
end
end PX
set_option linter.unusedVariables false
set_option linter.unusedSimpArgs false
namespace PX
open Go
section
variable {P : Program} {E : Env} {Γ : Fun} {X : Ctx} {G : Gh} {st : Sto} {a : Act} {w : World} {tr : Tr} {po : PO}
 {next : Act → World → Prop} {Q : Exit → Act → World → Prop} {o : Oper}
theorem RowV.head {F : Nat → Prop} {ks e xs v} (h : RowV F w ks e xs v) {n : Nat} (hn : n ≤ xs.length) : ∃ base c, v = .slice base xs.length c ∧ xs.length ≤ c ∧ (base = none ∨ ∃ g, base = some ⟨g, 0, none⟩ ∨ c = 0) ∧ RowV F w ks e (xs.take n) (.slice base n c) ∧ rowBlk (.slice base n c) = rowBlk v := by
 obtain ⟨h1, h2⟩ := h
 have h1' : ∀ el ∈ xs.take n, el.length = ks.length := fun el hel => h1 el (List.mem_of_mem_take hel)
 rcases h2 with ⟨ad, rfl, rfl⟩ | ⟨g, c, cur, rfl, hc, hh, hlc, hcm, hsz, hcell⟩
 ·have : n = 0 := by simpa using hn
  subst this
  exact ⟨ad, 0, rfl, Nat.le_refl _, .inr ⟨0, .inr rfl⟩, ⟨by simp, .inl ⟨ad, rfl, by simp⟩⟩, rfl⟩
 ·refine ⟨_, c, rfl, hlc, .inr ⟨g, .inl rfl⟩, ⟨h1', .inr ⟨g, c, cur, ?_, hc, hh, ?_, hcm, hsz, fun j el i d k z1 z2 z3 => ?_⟩⟩, rfl⟩
  ·rw [List.length_take, Nat.min_eq_left hn]
  ·rw [List.length_take]; omega
  ·rw [List.getElem?_take] at z1
   split at z1
   ·exact hcell j el i d k z1 z2 z3
   ·cases z1
theorem auF (EO : fS P E) {dst t x lo hi mx ty pos af g} : OpS P E Γ ⟨dst, .slice t x lo hi mx, ty, pos, af, g⟩ := by
 cases hcut : (E.cut (dst.getD 9999) t && lo.isNone && hi.isSome) with
 | false => exact arQ EO hcut
 | true =>
  intro X G st a w tr po next Q h R hd _ hk _
  replace h : prE Γ (if (E.cut (dst.getD 9999) t && lo.isNone && hi.isSome) then (ev x fun a => evO lo fun lo => evO hi fun hi => evO mx fun mx => gY E t fun e ei => ahm (dst.getD 9999) e ei a lo hi mx) else
   (ev x fun a => evO lo fun lo1 => evO hi fun hi1 => evO mx fun mx1 => gN E t fun ti => if isStr ti then aen a lo1 hi1 mx1 else gY E t fun _ ei => af8 (isConst hi && isConst mx) ei.ks.length a lo1 hi1 mx1)) st tr = some po := h
  rw [hcut] at h
  simp only [if_true] at h
  obtain ⟨v1, tr1, h1, hr1, h2⟩ := eP R h
  obtain ⟨nl, tr2, hl, h3⟩ := adJ R h2
  obtain ⟨nh, tr3, hh, h4⟩ := adJ R h3
  obtain ⟨nm, tr4, hm, h5⟩ := adJ R h4
  obtain ⟨e, ei, hei, hu, h6⟩ := oV EO h5
  have hT := EO.ty e ei hei
  clear h5 h4 h3 h2 h
  unfold ahm at h6
  split at h6
  ·rename_i r n
   simp only [prE] at h6
   split at h6
   ·rename_i ks e' by_ xs hrr
    obtain ⟨hc, h7⟩ := dF h6
    simp only [Bool.and_eq_true, Bool.not_eq_true'] at hc
    obtain ⟨⟨hc1, hc2⟩, hc3⟩ := hc
    obtain rfl := gM hc1
    obtain rfl := Nat.eq_of_beq_eq_true hc2
    obtain ⟨hb, h8⟩ := iW h7
    simp only [Bool.and_eq_true, decide_eq_true_eq] at hb
    simp only [prE] at h8
    obtain ⟨hk1, hk0, hf, tr', rfl⟩ := abG h8
    obtain ⟨q1, q2, q3, q4, q5⟩ := R.rw r _ _ _ _ _ hrr
    obtain ⟨base, c, hv, hlc, hbase, hv', hblk⟩ := q4.head (n := n.toNat) (by omega)
    have hbp : prE Γ (rC xs.length none (some n) none fun _ _ => .done .nil) st tr4 = some (.val .nil st tr4) := by
     simp [rC, prE]
     have : (decide (0 ≤ n) && decide (n ≤ (xs.length : Int))) = true := by simp [hb.1, hb.2]
     first | (rw [this]; rfl) | simp [hb.1, hb.2]
    obtain ⟨l, h', _, hcut'⟩ := qF (P := P) (w := w) hbp
    obtain ⟨m, cut, hrun⟩ := hcut' c hlc
    have hrr' := hrun _ _ _ true hl hh hm
    have e1 := cut.lo; have e2 := cut.hi; have e3 := cut.mxx
    simp at e1 e2 e3
    subst e1; subst e2; subst e3
    have hx0 : ∀ us, AVR G w (.row r) us → us = G.rv r := fun us h => by cases h; rfl
    have hx : a.eval x = .slice base xs.length m := (hx0 _ h1).trans hv
    have hsl := yJ hu hT hrr' (base := base)
    have hres : (if m = 0 then base else base.map (·.add (0 * ei.ks.length))) = base := by
     split
     ·rfl
     ·rename_i hm0
      rcases hbase with rfl | ⟨g, rfl | h0⟩
      ·rfl
      ·simp [Addr.add]
      ·exact absurd h0 hm0
    rw [hres, Nat.sub_zero, Nat.sub_zero] at hsl
    have hrun2 : (execOp a.eval ⟨dst, .slice t x lo hi mx, ty, pos, af, g⟩).run P w = .ok (.value (.slice base n.toNat m)) w := by
     refine aae (s := Instr.sliceAt t (a.eval x) (lo.map a.eval) (hi.map a.eval) (mx.map a.eval)) ?_
     rw [hx]; exact hsl
    obtain ⟨R1, hgone⟩ := R.amP hrr ((Ext.refl w).but _)
    have hne : r ≠ dst.getD 9999 := by rintro rfl; simp at hc3
    refine kE hrun2 (hk _ _ _ rfl _ _ _ (ago rfl R1 hd hf hk1 hk0 hv' (fun g' hg' => ?_)))
    exact hgone g' (by rw [← hblk]; exact hg')
   ·cases h6
  ·exact (bX h6).elim
theorem ann {F : Nat → Prop} {ks : List CK} (hk : ks.all CK.isData = true) (h0 : 0 < ks.length) (n : Nat) :
  Flat F w ks (List.replicate n (ks.map CK.zP)) (Builtin.zeroCells ⟨ks.map CK.zeroV⟩ n).toList := by
 refine ⟨fun el hel => by rw [List.eq_of_mem_replicate hel]; simp, fun j el i d k h1 h2 h3 => ?_⟩
 have hj : j < n := by have := (List.getElem?_eq_some_iff.1 h1).1; simpa using this
 have hi := (List.getElem?_eq_some_iff.1 h3).1
 rw [List.getElem?_replicate, if_pos hj] at h1
 obtain rfl := Option.some.inj h1
 rw [List.getElem?_map, h3] at h2
 obtain rfl : k.zP = d := by simpa using h2
 have hlt : j * ks.length + i < n * ks.length := by
  have : (j + 1) * ks.length ≤ n * ks.length := Nat.mul_le_mul_right _ (by omega)
  rw [Nat.add_mul] at this; omega
 refine ⟨k.zeroV, ?_, atE k ((List.all_eq_true.1 hk) k (List.mem_of_getElem? h3))⟩
 have hmod : (j * ks.length + i) % ks.length = i := by
  rw [Nat.add_comm, Nat.add_mul_mod_self_right, Nat.mod_eq_of_lt hi]
 have hk' := List.getElem?_eq_getElem hi
 rw [h3] at hk'
 simp [Builtin.zeroCells, hlt, hmod, getElem!_def, hi, ← Option.some.inj hk']
theorem atH (EO : fS P E) {dst x t ty pos af g} : OpS P E Γ ⟨dst, .call ⟨.builtin .clear, ⟨[x]⟩, ⟨[t]⟩⟩, ty, pos, af, g⟩ := by
 intro X G st a w tr po next Q h R hd _ hk _
 obtain ⟨v1, tr1, h1, hr1, h2⟩ := eP R (show prE Γ (ev x fun x => gY E t fun _ ei => amT ei x) st tr = some po from h)
 obtain ⟨e, ei, hei, htu, h3⟩ := oV EO h2
 have hT := EO.ty e ei hei
 unfold amT at h3
 split at h3
 ·rename_i r lo n
  simp only [prE] at h3
  split at h3
  ·rename_i ks e' by_ xs hrr
   obtain ⟨hc, h4⟩ := dF h3
   simp only [Bool.and_eq_true, Bool.not_eq_true'] at hc
   obtain ⟨⟨hc1, hc2⟩, hc3⟩ := hc
   obtain rfl := gM hc1
   simp only [prE] at h4
   obtain rfl := Option.some.inj h4.symm
   obtain ⟨q1, q2, q3, q4, q5⟩ := R.rw r _ _ _ _ _ hrr
   obtain ⟨i0, hi0, hzs, hzb, z, hz0, hzc⟩ := hT.info
   generalize hus : a.eval x = us at h1
   cases h1 with
   | win _ _ _ b a' n0 c0 c' hv hn hc' ha =>
    have hn0 : n0 = xs.length := by
     obtain ⟨_, q6⟩ := q4
     rcases q6 with ⟨b, hval, rfl⟩ | ⟨g, c, cur, hval, _⟩ <;> rw [hval] at hv <;> injection hv with e1 e2 <;> exact e2.symm
    have hlen : (List.replicate n (ei.ks.map CK.zP)).length = n := by simp
    obtain ⟨w', k1, k2, k3⟩ := ais (P := P) R hrr (base := a') (lo := lo) (zs := List.replicate n (ei.ks.map CK.zP)) (us := (Builtin.zeroCells ⟨ei.ks.map CK.zeroV⟩ n).toList)
     (ann hc3 q2 n) (by simp [size_zeroCells]) (by rw [hlen]; omega) (fun hpos g c' hv' => by
      rw [hlen] at hpos
      rw [hv] at hv'; injection hv' with e1
      have := ha hpos _ e1
      rw [this, q1, add_lit, Nat.zero_add])
    rw [hlen] at k3
    have hrun : (Builtin.clear_ #[t] ty #[.slice a' n c']).run P w = .ok (.tuple #[]) w' := by
     rcases Nat.eq_zero_or_pos n with h0 | hp
     ·subst h0
      cases a' with
      | none => have := k2 rfl; subst this; simp [Builtin.clear_, run_underlying htu]
      | some ad =>
       have hst := k1 ad rfl
       have h0 : (Builtin.zeroCells ⟨ei.ks.map CK.zeroV⟩ 0).toList = [] := by simp [Builtin.zeroCells]
       rw [h0] at hst
       have h1 : (storeCells ad []).run P w = .ok () w := by simp [storeCells, pure]
       rw [h1] at hst
       have hw : w' = w := by injection hst with _ h; exact h.symm
       subst hw
       simp [Builtin.clear_, run_underlying htu]
     ·cases a' with
      | none => have := k2 rfl; subst this; simp [Builtin.clear_, run_underlying htu]
      | some ad =>
       obtain ⟨m, rfl⟩ : ∃ m, n = m + 1 := ⟨n - 1, by omega⟩
       have hst := k1 ad rfl
       have hzv : (zeroValue e).run P w = .ok z w := by simp [zeroValue, typeInfo, hi0, hz0]
       simp [Builtin.clear_, run_underlying htu, hzv, hzc, hst]
    have hrun2 : (execOp a.eval ⟨dst, .call ⟨.builtin .clear, ⟨[x]⟩, ⟨[t]⟩⟩, ty, pos, af, g⟩).run P w = .ok (.value (.tuple #[])) w' := by
     simp only [execOp, resolve, invoke, builtin, Sem.run_bind, Sem.run_pure, Result.andThen_ok]
     have : (⟨[x]⟩ : Array Operand).map a.eval = #[a.eval x] := by simp
     rw [this, hus, hrun]; rfl
    exact kE hrun2 (hk _ _ _ rfl G _ _ (Rel.putDst k3 hd (.dead _) (by simp [AV.refs])))
  ·cases h3
 ·exact (bX h3).elim
end
end PX
set_option linter.unusedVariables false
set_option linter.unusedSimpArgs false
namespace PX
open Go
section
variable {P : Program} {E : Env} {Γ : Fun} {Λ : Code → Sto → (Ex → Sto → Res) → Res} {X : Ctx} {G : Gh} {st : Sto} {a : Act} {w : World} {tr : Tr} {po : PO}
 {next : Act → World → Prop} {Q : Exit → Act → World → Prop} {o : Oper}
def FOK (X : Ctx) : Prop := ∀ k, X.F0 k → k < X.B ∧ ¬ X.M k
def aiE (P : Program) (E : Env) (Γ : Fun) : Prop := ∀ nt o, agU nt o = true → OpS P E Γ o
theorem apv {nt : Nat} {o : Oper} (h : agU nt o = true) : ∀ d, o.dst = some d → d < nt := by
 intro d hd
 unfold agU at h
 rw [hd] at h
 exact Nat.le_of_ble_eq_true h
def aqu : Value → Option Bool | .bool b => some b | _ => none
theorem adF {ops : Array Oper} {j t : Nat} {v : Value} (hj : (ops[j]?).bind (·.dst) = some t) (ht : t < a.tmps.size) (hv : a.tmps.getD t undef = v) :
  yielded ops a.tmps j = aqu v := by
 unfold yielded
 rw [hj]
 have : a.tmps[t]? = some v := by
  rw [← hv]
  simp [Array.getD_eq_getD_getElem?, Array.getElem?_eq_getElem ht]
 simp only [Option.bind_some, this]
 cases v <;> rfl
theorem Rel.undf (R : Rel X G st a w) {dst : Option Nat} (hd : ∀ d, dst = some d → d < X.nt) : Rel X G (PX.putDst st dst .undf) (a.put dst undef) w :=
 R.putDst hd .undf (by simp [AV.refs])
theorem aeG (hops : aiE P E Γ) (hF : FOK X) {ops : Array Oper} {k : Sto → List Tr → Res} {kp : AV → Res} {out : Out}
  (hk : ∀ st' ts', k st' ts' = some out → ∀ G' a' w', Rel X G' st' a' w' → Q .normal a' w')
  (hp : ∀ v, kp v = some out → ∀ chain a' w', a'.defers = X.df → aqb X v chain w' → Q (.panic chain) a' w') :
  ∀ (l : List Oper) (st : Sto) (ts : List Tr) (G : Gh) (a : Act) (w : World), l.all (agU X.nt) = true → fH E Γ ops l st ts k kp = some out → Rel X G st a w → wpList P ops Q l a w
 | [], st, ts, G, a, w, ho, h, R => hk _ _ h _ _ _ R
 | o :: r, st, ts, G, a, w, ho, h, R => by
  simp only [List.all_cons, Bool.and_eq_true] at ho
  have hd := apv ho.1
  have run : ∀ (tr : Tr), mE Γ (vR E o) st tr (fun v st' tr => fH E Γ ops r (putDst st' o.dst v) (j3 tr o.dst :: ts) k kp) kp = some out → o.wp P a w (wpList P ops Q r) Q := by
   intro tr hr
   rw [ab0] at hr
   obtain ⟨po, hpo, hr⟩ := Option.bind_eq_some_iff.1 hr
   refine hops X.nt o ho.1 X G st a w tr po _ Q hpo R hd hF ?_ ?_
   ·intro v st' tr' e G' a' w' R'
    subst e
    exact aeG hops hF hk hp r _ _ _ _ _ ho.2 hr R'
   ·intro v e chain w' hpan
    subst e
    exact hp v hr chain a w' R.defers hpan
  have skip : ∀ (st' : Sto) (ts' : List Tr), Rel X G st' a w → fH E Γ ops r (putDst st' o.dst .undf) ts' k kp = some out → wpList P ops Q r (a.put o.dst undef) w :=
   fun st' ts' R' hr => aeG hops hF hk hp r _ _ _ _ _ ho.2 hr (R'.undf hd)
  unfold wpList
  unfold fH at h
  split at h
  ·rename_i hg
   have hw : Region.wanted o (yielded ops a.tmps) = true := by simp [Region.wanted, hg]
   rw [if_pos hw]
   exact .inl (run _ h)
  ·rename_i j want hg
   split at h
   ·cases h
   ·rename_i t ht
    split at h
    ·rename_i b hb
     obtain ⟨htlt, hav⟩ := R.tm t _ hb
     have hy := adF ht (by rw [R.sz]; exact htlt) hav.vX
     simp only [aqu] at hy
     have hwant : Region.wanted o (yielded ops a.tmps) = (b == want) := by
      simp only [Region.wanted, hg, hy]
      cases b <;> cases want <;> rfl
     rw [hwant]
     cases b <;> cases want <;> simp only [if_true, if_false, Bool.false_eq_true, beq_self_eq_true, show (true == false) = false from rfl, show (false == true) = false from rfl, show (false == false) = true from rfl] at h ⊢ <;> rw [alj _ hb] at h <;>
      first | exact .inl (run _ h) | exact skip _ _ R h
    ·rename_i hb
     obtain ⟨htlt, hav⟩ := R.tm t _ hb
     have hu : a.tmps.getD t undef = undef := by
      generalize a.tmps.getD t undef = uu at hav
      cases hav; rfl
     have hy := adF ht (by rw [R.sz]; exact htlt) hu
     have hwant : Region.wanted o (yielded ops a.tmps) = false := by
      simp only [Region.wanted, hg, hy]
      rfl
     rw [hwant]
     simpa using skip _ _ R h
    ·cases h
def alb (X : Ctx) (K : Ex → Sto → Res) (out : Out) : Exit → Act → World → Prop
 | .normal, a, w => ∃ G st, Rel X G st a w ∧ K .normal st = some out
 | .exit i, a, w => ∃ G st, Rel X G st a w ∧ K (.exit i) st = some out
 | .ret, a, w => ∃ G st, Rel X G st a w ∧ K .ret st = some out
 | .panic chain, a, w => ∃ v st, a.defers = X.df ∧ aqb X v chain w ∧ K (.pan v) st = some out
 | _, _, _ => False
def aoN (P : Program) (E : Env) (Λ : Code → Sto → (Ex → Sto → Res) → Res) : Prop :=
 ∀ b st K out, Λ b st K = some out → ∀ X G a w, FOK X → codeOk X.nt b = true → Rel X G st a w → (Code.loop b).wp P (alb X K out) a w
def amf (P : Program) (E : Env) (Γ : Fun) : Prop :=
 ∀ (ops : Array Oper) (st : Sto) (k : Sto → Res) (out : Out), fH E Γ ops ops.toList st [] (fun st' ts => if xA ops && qU (Region.before ops) ts then k st' else none) (fun _ => none) = some out →
  ∀ id X G a w Q, FOK X → ops.toList.all (agU X.nt) = true → Rel X G st a w → (∀ st', k st' = some out → ∀ G' a' w', Rel X G' st' a' w' → Q .normal a' w') → (Code.region id ops true).wp P Q a w
def anq (P : Program) (E : Env) : Prop := ∀ h st st', canon h st = some st' → ∀ X G a w, FOK X → Rel X G st a w → ∃ G', Rel X G' st' a w
theorem step_scope {P : Program} {b : Frame} {a : Act} {k : List Item} {cs : List Frame} {w : World} {c : Code} :
  step P (lone (b.at a (.code (.scope c) :: k)) cs w) = .next (lone (b.at a (.code c :: .inScope c :: k)) cs w) :=
 step_lone_go (by simp [stepG, stepG.exec, Frame.at])
theorem step_inScope {P : Program} {b : Frame} {a : Act} {k : List Item} {cs : List Frame} {w : World} {c : Code} :
  step P (lone (b.at a (.inScope c :: k)) cs w) = .next (lone (b.at a k) cs w) :=
 step_lone_go (by simp [stepG, stepG.exec, Frame.at])
theorem awO {P : Program} {Q : Exit → Act → World → Prop} {a : Act} {w : World} {c : Code} (hg : ∀ l a w, ¬ Q (.goto l) a w) (h : c.wp P Q a w) : (Code.scope c).wp P Q a w := by
 intro b k cs
 obtain ⟨e, a₁, w₁, hq, harr⟩ := h b (.inScope c :: k) cs
 cases e with
 | normal => exact ⟨.normal, a₁, w₁, hq, .head step_scope (Steps.trans harr (.one step_inScope))⟩
 | exit id => exact ⟨.exit id, a₁, w₁, hq, fun k' hk => .head step_scope (harr k' (by simp [exitTo, hk]))⟩
 | goto l => exact absurd hq (hg l a₁ w₁)
 | ret => exact ⟨_, a₁, w₁, hq, .of_steps (.one step_scope) harr⟩
 | panic ch => exact ⟨_, a₁, w₁, hq, .of_steps (.one step_scope) harr⟩
 | outgrown => exact ⟨_, a₁, w₁, hq, .of_steps (b := b) (k := k) (cs := cs) (e := .outgrown) (.one step_scope) harr⟩
theorem ajE {x y : Res} {o : Out} (h : adj x y = some o) : x = some o ∧ y = some o := by
 unfold adj at h
 split at h
 ·rename_i e; exact ⟨h, e ▸ h⟩
 ·cases h
theorem Rel.aFd {X : Ctx} {G : Gh} {st : Sto} {a : Act} {w : World} (R : Rel X G st a w) {i : Nat} {v : AV} {b : Bool} (hi : st (.tm i) = .av v) (hb : a.tmps.getD i undef = .bool b) : Rel X G (st.upd (.tm i) (.av (.d (.bool b)))) a w := by
 have ne : ∀ l, (∀ j, l ≠ .tm j) → (st.upd (.tm i) (.av (.d (.bool b)))) l = st l := fun l hl => bH _ _ (Ne.symm (hl i))
 have hbl : ∀ l, blk G (st.upd (.tm i) (.av (.d (.bool b)))) l = blk G st l := by
  intro l
  cases l <;> simp only [blk] <;> first | rfl | (rw [ne _ (by intro j; exact Loc.noConfusion)])
 refine ⟨R.base, R.defers, R.sz, fun j u hj => ?_, fun c t n h => R.bx c t n (by rwa [ne _ (by intro j; exact Loc.noConfusion)] at h), fun c o u h => ?_, fun r ks e by_ xs fz h => R.rw r ks e by_ xs fz (by rwa [ne _ (by intro j; exact Loc.noConfusion)] at h),
  fun j s p h => R.it j s p (by rwa [ne _ (by intro j; exact Loc.noConfusion)] at h), fun l u h l' hl' => ?_, fun l l' k h1 h2 => R.inj l l' k (by rwa [hbl] at h1) (by rwa [hbl] at h2), fun l k h => R.own l k (by rwa [hbl] at h), R.rv1, fun k t n h => R.lent k t n (by rwa [ne _ (by intro j; exact Loc.noConfusion)] at h)⟩
 ·by_cases e : j = i
  ·subst e
   rw [sS] at hj
   obtain rfl : AV.d (.bool b) = u := by simpa using hj
   exact ⟨(R.tm _ _ hi).1, by rw [hb]; exact .d (.bool b)⟩
  ·rw [bH _ _ (by intro h; exact e (Loc.tm.inj h).symm)] at hj
   exact R.tm j u hj
 ·rw [ne _ (by intro j; exact Loc.noConfusion)] at h
  obtain ⟨t, n, cs, u', q1, q2⟩ := R.bc c o u h
  exact ⟨t, n, cs, u', by rw [ne _ (by intro j; exact Loc.noConfusion)]; exact q1, q2⟩
 ·have hne : st l' ≠ .none := by
   by_cases e : l = .tm i
   ·subst e
    rw [sS] at h
    obtain rfl : AV.d (.bool b) = u := by simpa using h
    simp [AV.refs] at hl'
   ·rw [bH _ _ (Ne.symm e)] at h
    exact R.reg l u h l' hl'
  by_cases e : l' = .tm i
  ·subst e; rw [sS]; simp
  ·rw [bH _ _ (Ne.symm e)]; exact hne
theorem alm (EO : fS P E) (hops : aiE P E Γ) (hL : aoN P E Λ) (hdraw : amf P E Γ) (hcan : anq P E) {hr : Nat → Option Hint} {out : Out} (hF : FOK X) :
  ∀ (c : Code) (st : Sto) (K : Ex → Sto → Res) (G : Gh) (a : Act) (w : World), codeOk X.nt c = true → exec E Γ Λ hr c st K = some out → Rel X G st a w → c.wp P (alb X K out) a w := by
 intro c
 induction c with
 | skip => intro st K G a w _ h R; exact wp_skip ⟨G, st, R, by simpa [exec] using h⟩
 | label l => intro st K G a w _ h R; exact wp_label ⟨G, st, R, by simpa [exec] using h⟩
 | exit i => intro st K G a w _ h R; exact wp_exit ⟨G, st, R, by simpa [exec] using h⟩
 | ret => intro st K G a w _ h R; exact wp_ret ⟨G, st, R, by simpa [exec] using h⟩
 | region id ops draw =>
  intro st K G a w hc h R
  simp only [codeOk] at hc
  have go : ∀ (st : Sto) (G : Gh), Rel X G st a w → fH E Γ ops ops.toList st [] (fun st' ts =>
   if draw then (if xA ops && qU (Region.before ops) ts then K .normal st' else none) else K .normal st') (fun v => if draw then none else K (.pan v) st) = some out → (Code.region id ops draw).wp P (alb X K out) a w := by
   intro st G R h
   cases draw with
   | true => exact hdraw ops st _ out h id X G a w _ hF hc R (fun st' hst' G' a' w' R' => ⟨G', st', R', hst'⟩)
   | false =>
    exact wp_region_list (aeG hops hF (fun st' ts' hst' G' a' w' R' => ⟨G', st', R', hst'⟩) (fun v hv chain a' w' hd hpan => ⟨v, st, hd, hpan, hv⟩) _ _ _ _ _ _ hc h R)
  unfold exec at h
  simp only at h
  split at h
  ·rename_i hh _
   obtain ⟨st', h1, h2⟩ := Option.bind_eq_some_iff.1 h
   obtain ⟨G', R'⟩ := hcan _ _ _ h1 X G a w hF R
   exact go st' G' R' h2
  ·exact go st G R h
 | seq x y ihx ihy =>
  intro st K G a w hc h R
  simp only [codeOk, Bool.and_eq_true] at hc
  refine wp_seq (wp_mono (ihx st _ G a w hc.1 (by simpa only [exec] using h) R) (fun e a' w' hq => ?_))
  cases e <;> simp only [alb, Exit.then] at hq ⊢ <;> first | exact hq | skip
  obtain ⟨G', st', R', h'⟩ := hq
  exact ihy st' K G' a' w' hc.2 h' R'
 | cond c x y ihx ihy =>
  intro st K G a w hc h R
  simp only [codeOk, Bool.and_eq_true] at hc
  unfold exec at h
  split at h
  ·rename_i i
   split at h
   ·rename_i b hb
    obtain ⟨_, hav⟩ := R.tm i _ hb
    refine wp_cond (t := b) (by simpa [Act.eval] using hav.vX) ?_
    cases b <;> simp only [if_true, if_false, Bool.false_eq_true] at h ⊢ <;> rw [alj _ hb] at h
    ·exact ihy st K G a w hc.2 h R
    ·exact ihx st K G a w hc.1 h R
   ·rename_i hb
    obtain ⟨hi, hav⟩ := R.tm i _ hb
    obtain ⟨h1, h2⟩ := ajE h
    obtain ⟨b, hb'⟩ : ∃ b, a.tmps.getD i undef = .bool b := by cases hav' : a.tmps.getD i undef <;> rw [hav'] at hav <;> cases hav; exact ⟨_, rfl⟩
    refine wp_cond (t := b) (by simpa [Act.eval] using hb') ?_
    have R' := R.aFd (b := b) hb hb'
    cases b <;> simp only [if_true, if_false, Bool.false_eq_true]
    ·exact ihy _ K G a w hc.2 h2 R'
    ·exact ihx _ K G a w hc.1 h1 R'
   ·cases h
  ·rename_i b
   refine wp_cond (t := b) rfl ?_
   cases b <;> simp only [if_true, if_false, Bool.false_eq_true] at h ⊢
   ·exact ihy st K G a w hc.2 h R
   ·exact ihx st K G a w hc.1 h R
  ·cases h
 | block id b ih =>
  intro st K G a w hc h R
  refine wp_block (wp_mono (ih st _ G a w (by simpa [codeOk] using hc) (by simpa only [exec] using h) R) (fun e a' w' hq => ?_))
  cases e <;> simp only [alb, Exit.inBlock] at hq ⊢ <;> first | exact hq | skip
  rename_i i
  obtain ⟨G', st', R', h'⟩ := hq
  by_cases hi : i = id
  ·subst hi
   simp only [Nat.beq_refl, if_true] at h'
   simp only [if_true]
   exact ⟨G', st', R', h'⟩
  ·have : Nat.beq i id = false := by
    cases hb : Nat.beq i id
    ·rfl
    ·exact absurd (Nat.eq_of_beq_eq_true hb) hi
   simp only [this] at h'
   simp only [hi, if_false]
   exact ⟨G', st', R', h'⟩
 | loop b ih =>
  intro st K G a w hc h R
  exact hL b st K out (by simpa only [exec] using h) X G a w hF (by simpa [codeOk] using hc) R
 | scope b ih => intro st K G a w hc h R; exact awO (fun _ _ _ hq => hq) (ih st K G a w (by simpa [codeOk] using hc) (by simpa only [exec] using h) R)
 | _ => intro st K G a w _ h R; simp [exec] at h
theorem ara (EO : fS P E) (hops : aiE P E Γ) (hdraw : amf P E Γ) (hcan : anq P E) {hl hr : Nat → Option Hint} : ∀ n, aoN P E (eH E Γ hl hr n) := by
 intro n
 suffices key : (∀ b st K out, eH E Γ hl hr n b st K = some out → ∀ X G a w, FOK X → codeOk X.nt b = true → Rel X G st a w → Code.rounds P b (alb X K out) n a w) from
  fun b st K out h X G a w hF hc R => wp_loop_rounds n (key b st K out h X G a w hF hc R)
 induction n with
 | zero => intro b st K out h; simp [eH] at h
 | succ n ih =>
  intro b st K out h X G a w hF hc R
  simp only [eH] at h
  split at h
  ·cases h
  ·rename_i hh _
   obtain ⟨st', h1, h2⟩ := Option.bind_eq_some_iff.1 h
   obtain ⟨G', R'⟩ := hcan _ _ _ h1 X G a w hF R
   have hLam : aoN P E (eH E Γ hl hr n) := fun b st K out h X G a w hF hc R => wp_loop_rounds n (ih b st K out h X G a w hF hc R)
   rw [rounds_succ]
   refine wp_mono (alm EO hops hLam hdraw hcan hF b st' _ G' a w hc h2 R') (fun e a' w' hq => ?_)
   cases e <;> simp only [alb, Exit.then, oD] at hq ⊢ <;> first | exact hq | skip
   obtain ⟨G2, st2, R2, h3⟩ := hq
   exact ih b st2 K out h3 X G2 a' w' hF hc R2
end
end PX
set_option linter.unusedVariables false
set_option linter.unusedSimpArgs false
namespace PX
open Go
section
variable {P : Program} {E : Env} {Γ : Fun} {X : Ctx} {G : Gh} {st : Sto} {a : Act} {w : World} {tr : Tr} {po : PO}
 {next : Act → World → Prop} {Q : Exit → Act → World → Prop} {o : Oper}
theorem auz : ∀ (p : Pr) (s : Sto) (tr : Tr) (v : AV) (s1 : Sto) (tr1 : Tr), prE Γ p s tr = some (.val v s1 tr1) →
  ∃ R W, tr1 = (R ++ tr.1, W ++ tr.2) ∧ (∀ l, l ∉ W → s1 l = s l) ∧
   ∀ (s' : Sto) (tr' : Tr), (∀ l ∈ R, s' l = s l) → ∃ s1', prE Γ p s' tr' = some (.val v s1' (R ++ tr'.1, W ++ tr'.2)) ∧ (∀ l ∈ W, s1' l = s1 l) ∧ ∀ l, l ∉ W → s1' l = s' l := by
 intro p
 induction p with
 | done u =>
  intro s tr v s1 tr1 h
  simp only [prE, Option.some.injEq, PO.val.injEq] at h
  obtain ⟨rfl, rfl, rfl⟩ := h
  exact ⟨[], [], rfl, fun _ _ => rfl, fun s' tr' _ => ⟨s', rfl, by simp, fun _ _ => rfl⟩⟩
 | fail => intro s tr v s1 tr1 h; simp [prE] at h
 | pan u => intro s tr v s1 tr1 h; simp [prE] at h
 | get l q ih =>
  intro s tr v s1 tr1 h
  simp only [prE] at h
  obtain ⟨R, W, rfl, h1, h2⟩ := ih (s l) s _ v s1 tr1 h
  refine ⟨R ++ [l], W, by simp, h1, fun s' tr' hr => ?_⟩
  have hl : s' l = s l := hr l (by simp)
  obtain ⟨s1', h3, h4, h5⟩ := h2 s' (l :: tr'.1, tr'.2) (fun x hx => hr x (by simp [hx]))
  exact ⟨s1', by simp only [prE, hl]; rw [h3]; simp, h4, h5⟩
 | put l u q ih =>
  intro s tr v s1 tr1 h
  simp only [prE] at h
  obtain ⟨R, W, rfl, h1, h2⟩ := ih (s.upd l u) _ v s1 tr1 h
  refine ⟨R, W ++ [l], by simp, fun x hx => ?_, fun s' tr' hr => ?_⟩
  ·simp only [List.mem_append, List.mem_singleton, not_or] at hx
   rw [h1 x hx.1, bH _ _ (Ne.symm hx.2)]
  ·obtain ⟨s1', h3, h4, h5⟩ := h2 (s'.upd l u) (tr'.1, l :: tr'.2) (fun x hx => by
    by_cases e : l = x
    ·subst e; simp
    ·rw [bH _ _ e, bH _ _ e]; exact hr x hx)
   refine ⟨s1', by simp only [prE]; rw [h3]; simp, fun x hx => ?_, fun x hx => ?_⟩
   ·by_cases hw : x ∈ W
    ·exact h4 x hw
    ·have e : l = x := by simp only [List.mem_append, List.mem_singleton] at hx; rcases hx with hx | hx; exact absurd hx hw; exact hx.symm
     subst e
     rw [h5 _ hw, h1 _ hw]; simp
   ·simp only [List.mem_append, List.mem_singleton, not_or] at hx
    rw [h5 x hx.1, bH _ _ (Ne.symm hx.2)]
 | chk b q ih =>
  intro s tr v s1 tr1 h
  cases b with
  | false => simp [prE] at h
  | true =>
   obtain ⟨R, W, rfl, h1, h2⟩ := ih s tr v s1 tr1 h
   exact ⟨R, W, rfl, h1, h2⟩
 | ite b q r ihq ihr =>
  intro s tr v s1 tr1 h
  cases b with
  | false =>
   obtain ⟨R, W, rfl, h1, h2⟩ := ihr s tr v s1 tr1 h
   exact ⟨R, W, rfl, h1, h2⟩
  | true =>
   obtain ⟨R, W, rfl, h1, h2⟩ := ihq s tr v s1 tr1 h
   exact ⟨R, W, rfl, h1, h2⟩
 | call f as bs rs q ih =>
  intro s tr v s1 tr1 h
  simp only [prE] at h
  split at h
  ·rename_i oo hoo
   obtain ⟨R, W, rfl, h1, h2⟩ := ih oo s tr v s1 tr1 h
   refine ⟨R, W, rfl, h1, fun s' tr' hr => ?_⟩
   obtain ⟨s1', h3, h4, h5⟩ := h2 s' tr' hr
   exact ⟨s1', by simp only [prE, hoo]; exact h3, h4, h5⟩
  ·cases h
def aat (E : Env) (Γ : Fun) (ops : Array Oper) (o : Oper) (st : Sto) : Option (Sto × Tr) :=
 let go (tr : Tr) : Option (Sto × Tr) := match prE Γ (vR E o) st tr with
  | some (.val v st' tr') => some (putDst st' o.dst v, j3 tr' o.dst)
  | _ => none
 match o.guard with
 | none => go ([], [])
 | some (j, want) =>
  match (ops[j]?).bind (·.dst) with
  | none => none
  | some t =>
   match st (.tm t) with
   | .av (.d (.bool b)) => if b = want then go ([.tm t], []) else some (putDst st o.dst .undf, j3 ([.tm t], []) o.dst)
   | .av .undf => some (putDst st o.dst .undf, j3 ([.tm t], []) o.dst)
   | _ => none
theorem aqO {ops : Array Oper} {r : List Oper} {ts : List Tr} {k : Sto → List Tr → Res} :
  fH E Γ ops (o :: r) st ts k (fun _ => none) = (aat E Γ ops o st).bind fun p => fH E Γ ops r p.1 (p.2 :: ts) k (fun _ => none) := by
 have go : ∀ (tr : Tr), mE Γ (vR E o) st tr (fun v st' tr => fH E Γ ops r (putDst st' o.dst v) (j3 tr o.dst :: ts) k (fun _ => none)) (fun _ => none) =
   (match prE Γ (vR E o) st tr with
    | some (.val v st' tr') => some (putDst st' o.dst v, j3 tr' o.dst)
    | _ => none : Option (Sto × Tr)).bind fun p => fH E Γ ops r p.1 (p.2 :: ts) k (fun _ => none) := by
  intro tr
  rw [ab0]
  cases prE Γ (vR E o) st tr with
  | none => rfl
  | some p => cases p <;> rfl
 rw [fH]
 unfold aat
 simp only
 cases hg : o.guard with
 | none => exact go _
 | some p =>
  obtain ⟨j, want⟩ := p
  simp only
  cases ht : (ops[j]?).bind (·.dst) with
  | none => rfl
  | some t =>
   simp only
   split
   ·rename_i b hb
    simp only [hb]
    cases b <;> cases want <;> simp only [if_true, if_false, Bool.false_eq_true, Bool.true_eq_false, Option.bind_some] <;> rw [alj _ hb] <;> first | exact go _ | rfl
   ·rename_i hb
    simp only [hb]
    rfl
   ·rename_i h1 h2
    split
    ·rename_i b hb; exact absurd hb (h1 b)
    ·rename_i hb; exact absurd hb h2
    ·rfl
theorem ak1 (tr : Tr) (d : Option Nat) : j3 tr d = (tr.1, (d.map Loc.tm).toList ++ tr.2) := by cases d <;> rfl
theorem vW (st : Sto) (d : Option Nat) (v : AV) (l : Loc) : putDst st d v l = if d.map Loc.tm = some l then .av v else st l := by
 cases d with
 | none => simp [putDst]
 | some d =>
  simp only [putDst, Option.map_some, Option.some.injEq]
  by_cases h : Loc.tm d = l
  ·subst h; simp
  ·rw [bH _ _ h, if_neg h]
theorem aiQ {ops : Array Oper} {s s1 : Sto} {t : Tr} (h : aat E Γ ops o s = some (s1, t)) :
  (∀ l, l ∉ t.2 → s1 l = s l) ∧ ∀ s' : Sto, (∀ l ∈ t.1, s' l = s l) → ∃ s1', aat E Γ ops o s' = some (s1', t) ∧ (∀ l ∈ t.2, s1' l = s1 l) ∧ ∀ l, l ∉ t.2 → s1' l = s' l := by
 have go : ∀ (tr0 : Tr) (s1 : Sto) (t : Tr), (match prE Γ (vR E o) s tr0 with
   | some (.val v st' tr') => some (putDst st' o.dst v, j3 tr' o.dst)
   | _ => none : Option (Sto × Tr)) = some (s1, t) → tr0.2 = [] →
   (∀ l ∈ tr0.1, l ∈ t.1) ∧ (∀ l, l ∉ t.2 → s1 l = s l) ∧ ∀ s' : Sto, (∀ l ∈ t.1, s' l = s l) → ∃ s1', (match prE Γ (vR E o) s' tr0 with
    | some (.val v st' tr') => some (putDst st' o.dst v, j3 tr' o.dst)
    | _ => none : Option (Sto × Tr)) = some (s1', t) ∧ (∀ l ∈ t.2, s1' l = s1 l) ∧ ∀ l, l ∉ t.2 → s1' l = s' l := by
  intro tr0 s1 t h h0
  split at h
  ·rename_i v st' tr' hpr
   simp only [Option.some.injEq, Prod.mk.injEq] at h
   obtain ⟨rfl, rfl⟩ := h
   obtain ⟨R, W, rfl, h1, h2⟩ := auz _ _ _ _ _ _ hpr
   rw [h0]
   simp only [ak1, List.append_nil]
   refine ⟨fun l hl => by simp [hl], fun l hl => ?_, fun s' hs' => ?_⟩
   ·simp only [List.mem_append, Option.mem_toList, Option.mem_def, not_or] at hl
    rw [vW, if_neg hl.1, h1 l hl.2]
   ·obtain ⟨s1', h3, h4, h5⟩ := h2 s' tr0 (fun l hl => hs' l (by simp [hl]))
    refine ⟨putDst s1' o.dst v, by rw [h3]; simp [ak1, h0], fun l hl => ?_, fun l hl => ?_⟩
    ·rw [vW, vW]
     split
     ·rfl
     ·rename_i hne
      simp only [List.mem_append, Option.mem_toList, Option.mem_def] at hl
      exact h4 l (hl.resolve_left hne)
    ·simp only [List.mem_append, Option.mem_toList, Option.mem_def, not_or] at hl
     rw [vW, if_neg hl.1, h5 l hl.2]
  ·cases h
 have skip : ∀ (t0 : Loc) (s1 : Sto) (t : Tr), (some (putDst s o.dst .undf, j3 ([t0], []) o.dst) : Option (Sto × Tr)) = some (s1, t) →
   (∀ l, l ∉ t.2 → s1 l = s l) ∧ t0 ∈ t.1 ∧ ∀ s' : Sto, (∀ l ∈ t.2, putDst s' o.dst .undf l = s1 l) ∧ (∀ l, l ∉ t.2 → putDst s' o.dst .undf l = s' l) := by
  intro t0 s1 t h
  simp only [Option.some.injEq, Prod.mk.injEq] at h
  obtain ⟨rfl, rfl⟩ := h
  simp only [ak1, List.append_nil]
  refine ⟨fun l hl => ?_, by simp, fun s' => ⟨fun l hl => ?_, fun l hl => ?_⟩⟩
  ·simp only [Option.mem_toList, Option.mem_def] at hl
   rw [vW, if_neg hl]
  ·simp only [Option.mem_toList, Option.mem_def] at hl
   rw [vW, if_pos hl, vW, if_pos hl]
  ·simp only [Option.mem_toList, Option.mem_def] at hl
   rw [vW, if_neg hl]
 unfold aat at h ⊢
 simp only at h ⊢
 split at h
 ·rename_i hg
  obtain ⟨_, h1, h2⟩ := go _ _ _ h rfl
  exact ⟨h1, h2⟩
 ·rename_i j want hg
  split at h
  ·cases h
  ·rename_i t0 ht
   split at h
   ·rename_i b hb
    split at h
    ·rename_i hbw
     obtain ⟨h0, h1, h2⟩ := go _ _ _ h rfl
     refine ⟨h1, fun s' hs' => ?_⟩
     have e : s' (.tm t0) = .av (.d (.bool b)) := by rw [hs' _ (h0 _ (by simp)), hb]
     obtain ⟨s1', h3, h4⟩ := h2 s' hs'
     exact ⟨s1', by simp only [e, if_pos hbw]; exact h3, h4⟩
    ·rename_i hbw
     obtain ⟨h1, h0, h2⟩ := skip _ _ _ h
     refine ⟨h1, fun s' hs' => ?_⟩
     have e : s' (.tm t0) = .av (.d (.bool b)) := by rw [hs' _ h0, hb]
     have e2 : j3 ([.tm t0], []) o.dst = t := by simp only [Option.some.injEq, Prod.mk.injEq] at h; exact h.2
     exact ⟨_, by simp only [e, if_neg hbw, e2], h2 s'⟩
   ·rename_i hb
    obtain ⟨h1, h0, h2⟩ := skip _ _ _ h
    refine ⟨h1, fun s' hs' => ?_⟩
    have e : s' (.tm t0) = .av .undf := by rw [hs' _ h0, hb]
    have e2 : j3 ([.tm t0], []) o.dst = t := by simp only [Option.some.injEq, Prod.mk.injEq] at h; exact h.2
    exact ⟨_, by simp only [e, e2], h2 s'⟩
   ·cases h
theorem aqd (hops : aiE P E Γ) (hF : FOK X) {ops : Array Oper} {i : Nat} {s1 : Sto} {t : Tr} (ho : ops[i]? = some o) (hok : agU X.nt o = true) (h : aat E Γ ops o st = some (s1, t)) (R : Rel X G st a w)
  {K : Act → World → Prop} (hK : ∀ G' a' w', Rel X G' s1 a' w' → K a' w') : wpOp P ops Q i K a w := by
 have hd := apv hok
 have go : ∀ (tr0 : Tr), (match prE Γ (vR E o) st tr0 with
   | some (.val v st' tr') => some (putDst st' o.dst v, j3 tr' o.dst)
   | _ => none : Option (Sto × Tr)) = some (s1, t) → o.wp P a w K Q := by
  intro tr0 h
  split at h
  ·rename_i v st' tr' hpr
   simp only [Option.some.injEq, Prod.mk.injEq] at h
   obtain ⟨rfl, rfl⟩ := h
   refine hops X.nt o hok X G st a w tr0 _ _ Q hpr R hd hF ?_ (fun v e => by cases e)
   intro v' st'' tr'' e G' a' w' R'
   injection e with e1 e2 e3
   subst e1; subst e2
   exact hK _ _ _ R'
  ·cases h
 have skip : ∀ (t0 : Loc), (some (putDst st o.dst .undf, j3 ([t0], []) o.dst) : Option (Sto × Tr)) = some (s1, t) → K (a.put o.dst undef) w := by
  intro t0 h
  simp only [Option.some.injEq, Prod.mk.injEq] at h
  obtain ⟨rfl, rfl⟩ := h
  exact hK _ _ _ (R.undf hd)
 unfold wpOp
 rw [ho]
 simp only
 unfold aat at h
 simp only at h
 split at h
 ·rename_i hg
  have hw : Region.wanted o (yielded ops a.tmps) = true := by simp [Region.wanted, hg]
  rw [if_pos hw]
  exact .inl (go _ h)
 ·rename_i j want hg
  split at h
  ·cases h
  ·rename_i t0 ht
   split at h
   ·rename_i b hb
    obtain ⟨htlt, hav⟩ := R.tm t0 _ hb
    have hy := adF ht (by rw [R.sz]; exact htlt) hav.vX
    simp only [aqu] at hy
    have hwant : Region.wanted o (yielded ops a.tmps) = (b == want) := by
     simp only [Region.wanted, hg, hy]
     cases b <;> cases want <;> rfl
    rw [hwant]
    split at h
    ·rename_i hbw
     rw [if_pos (by simp [hbw])]
     exact .inl (go _ h)
    ·rename_i hbw
     rw [if_neg (by simp [hbw])]
     exact skip _ h
   ·rename_i hb
    obtain ⟨htlt, hav⟩ := R.tm t0 _ hb
    have hu : a.tmps.getD t0 undef = undef := by
     generalize a.tmps.getD t0 undef = uu at hav
     cases hav; rfl
    have hy := adF ht (by rw [R.sz]; exact htlt) hu
    have hwant : Region.wanted o (yielded ops a.tmps) = false := by
     simp only [Region.wanted, hg, hy]
     rfl
    rw [hwant, if_neg (by simp)]
    exact skip _ h
   ·cases h
end
end PX
set_option linter.unusedVariables false
set_option linter.unusedSimpArgs false
namespace PX
open Go
inductive Anc (ops : Array Oper) : Nat → Nat → Prop where
 | one {i : Nat} {o : Oper} {e : Edge} (ho : ops[i]? = some o) (he : e ∈ o.after) (hb : Region.binds .any e = true) : Anc ops i e.on
 | more {i j : Nat} {o : Oper} {e : Edge} (ho : ops[i]? = some o) (he : e ∈ o.after) (hb : Region.binds .any e = true) (h : Anc ops e.on j) : Anc ops i j
theorem apQ (acc : Array Nat) : ∀ (l : List Edge) (s j : Nat), (l.foldl (fun s e => if Region.binds .any e then s ||| 2 ^ e.on ||| acc.getD e.on 0 else s) s).testBit j = true →
  s.testBit j = true ∨ ∃ e ∈ l, Region.binds .any e = true ∧ (e.on = j ∨ (acc.getD e.on 0).testBit j = true)
 | [], s, j, h => .inl h
 | e :: l, s, j, h => by
  simp only [List.foldl_cons] at h
  rcases apQ acc l _ j h with h | ⟨e', he', hb', h'⟩
  ·split at h
   ·rename_i hb
    simp only [Nat.testBit_or, Bool.or_eq_true, Nat.testBit_two_pow, decide_eq_true_eq] at h
    rcases h with (h | h) | h
    ·exact .inl h
    ·exact .inr ⟨e, by simp, hb, .inl h⟩
    ·exact .inr ⟨e, by simp, hb, .inr h⟩
   ·exact .inl h
  ·exact .inr ⟨e', by simp [he'], hb', h'⟩
theorem asT (ops : Array Oper) : ∀ (i j : Nat), ((Region.before ops).getD i 0).testBit j = true → Anc ops i j := by
 have key : ∀ (l : List Oper) (pre : List Oper) (acc : Array Nat), ops.toList = pre ++ l → acc.size = pre.length → (∀ i j, (acc.getD i 0).testBit j = true → Anc ops i j) →
   ∀ i j, ((l.foldl (fun acc o => acc.push (o.after.foldl (fun s e => if Region.binds .any e then s ||| 2 ^ e.on ||| acc.getD e.on 0 else s) 0)) acc).getD i 0).testBit j = true → Anc ops i j := by
  intro l
  induction l with
  | nil => intro pre acc _ _ h; exact h
  | cons o l ih =>
   intro pre acc hp hs h
   simp only [List.foldl_cons]
   refine ih (pre ++ [o]) _ (by simp [hp]) (by simp [hs]) (fun i j hij => ?_)
   rw [Array.getD_eq_getD_getElem?, Array.getElem?_push] at hij
   split at hij
   ·rename_i hi
    subst hi
    simp only [Option.getD_some] at hij
    rw [← Array.foldl_toList] at hij
    have ho : ops[acc.size]? = some o := by
     rw [← Array.getElem?_toList, hp, hs]
     simp
    rcases apQ acc _ _ _ hij with h' | ⟨e, he, hb, h'⟩
    ·simp at h'
    ·rcases h' with rfl | h'
     ·exact .one ho (by simpa using he) hb
     ·exact .more ho (by simpa using he) hb (h _ _ h')
   ·rw [← Array.getD_eq_getD_getElem?] at hij
    exact h _ _ hij
 intro i j h
 unfold Region.before at h
 rw [← Array.foldl_toList] at h
 exact key ops.toList [] #[] rfl rfl (by simp) i j h
section
variable {P : Program} {E : Env} {Γ : Fun} {X : Ctx} {G : Gh} {st : Sto} {a : Act} {w : World} {tr : Tr} {po : PO}
 {next : Act → World → Prop} {Q : Exit → Act → World → Prop} {o : Oper}
theorem aiz {ops : Array Oper} {k : Sto → List Tr → Res} {out : Out} : ∀ (l : List Oper) (st : Sto) (ts : List Tr), fH E Γ ops l st ts k (fun _ => none) = some out →
  ∃ (s : Nat → Sto) (t : Nat → Tr), s 0 = st ∧ (∀ i o, l[i]? = some o → aat E Γ ops o (s i) = some (s (i + 1), t i)) ∧ k (s l.length) (((List.range l.length).map t).reverse ++ ts) = some out
 | [], st, ts, h => ⟨fun _ => st, fun _ => ([], []), rfl, by simp, by simpa [fH] using h⟩
 | o :: r, st, ts, h => by
  rw [aqO] at h
  obtain ⟨⟨s1, t1⟩, h1, h2⟩ := Option.bind_eq_some_iff.1 h
  obtain ⟨s, t, h3, h4, h5⟩ := aiz r s1 (t1 :: ts) h2
  refine ⟨fun | 0 => st | i + 1 => s i, fun | 0 => t1 | i + 1 => t i, rfl, fun i o' hi => ?_, ?_⟩
  ·cases i with
   | zero => simp at hi; subst hi; simp only [h3]; exact h1
   | succ i => exact h4 i o' (by simpa using hi)
  ·simp only [List.length_cons, List.range_succ_eq_map, List.map_cons, List.reverse_cons, List.append_assoc, List.singleton_append, List.map_map]
   exact h5
theorem akr {t : Nat → Tr} {m : Nat} {u : Tr} : ∀ (n : Nat), qU.go m u (((List.range n).map t).reverse) = true → ∀ j, j < n → m.testBit j = true ∨ agG (t j) u = true
 | 0, h, j, hj => by omega
 | n + 1, h, j, hj => by
  simp only [List.range_succ, List.map_append, List.map_cons, List.map_nil, List.reverse_append, List.reverse_cons, List.reverse_nil, List.nil_append, List.singleton_append, qU.go, Bool.and_eq_true, Bool.or_eq_true,
   List.length_reverse, List.length_map, List.length_range] at h
  by_cases hjn : j = n
  ·subst hjn; exact h.1
  ·exact akr n h.2 j (by omega)
theorem akm {t : Nat → Tr} {bf : Array Nat} : ∀ (n : Nat), qU bf (((List.range n).map t).reverse) = true → ∀ i j, i < n → j < i → (bf.getD i 0).testBit j = true ∨ agG (t j) (t i) = true
 | 0, h, i, j, hi, hj => by omega
 | n + 1, h, i, j, hi, hj => by
  simp only [List.range_succ, List.map_append, List.map_cons, List.map_nil, List.reverse_append, List.reverse_cons, List.reverse_nil, List.nil_append, List.singleton_append, qU, Bool.and_eq_true,
   List.length_reverse, List.length_map, List.length_range] at h
  by_cases hin : i = n
  ·subst hin; exact akr i h.2 j hj
  ·exact akm n h.1 i j (by omega) hj
theorem ahK {xs ys : List Loc} (h : aiJ xs ys = true) {l : Loc} (h1 : l ∈ xs) (h2 : l ∈ ys) : False := by
 simp only [aiJ, List.all_eq_true, Bool.not_eq_true', List.any_eq_false] at h
 exact h l h1 l h2 (Loc.eq_self l)
def yG (s : Nat → Sto) (t : Nat → Tr) (S : Nat → Bool) (l : Loc) : Nat → LV
 | 0 => s 0 l
 | i + 1 => if S i = true ∧ l ∈ (t i).2 then s (i + 1) l else yG s t S l i
section
variable {ops : Array Oper} {s : Nat → Sto} {t : Nat → Tr} {n : Nat}
theorem akC {S : Nat → Bool} {l : Loc} (hf : ∀ i, i < n → l ∉ (t i).2 → s (i + 1) l = s i l) : ∀ i, i ≤ n → (∀ j, j < i → l ∈ (t j).2 → S j = true) → yG s t S l i = s i l
 | 0, _, _ => rfl
 | i + 1, hi, h => by
  unfold yG
  by_cases hw : l ∈ (t i).2
  ·rw [if_pos ⟨h i (by omega) hw, hw⟩]
  ·rw [if_neg (fun hh => hw hh.2), akC hf i (by omega) (fun j hj => h j (by omega)), hf i (by omega) hw]
theorem ae3 {S : Nat → Bool} {l : Loc} {i : Nat} : ∀ m, i ≤ m → (∀ j, i ≤ j → j < m → S j = true → l ∉ (t j).2) → yG s t S l m = yG s t S l i
 | 0, h, _ => by
  obtain rfl : i = 0 := by omega
  rfl
 | m + 1, h, hh => by
  by_cases e : i = m + 1
  ·rw [e]
  ·rw [yG, if_neg (fun h' => hh m (by omega) (by omega) h'.1 h'.2)]
   exact ae3 m (by omega) (fun j h1 h2 => hh j h1 (by omega))
theorem aml {S S' : Nat → Bool} {l : Loc} : ∀ m, (∀ j, j < m → l ∈ (t j).2 → S j = S' j) → yG s t S l m = yG s t S' l m
 | 0, _ => rfl
 | m + 1, h => by
  unfold yG
  rw [aml m (fun j hj => h j (by omega))]
  by_cases hw : l ∈ (t m).2
  ·rw [h m (by omega) hw]
  ·rw [if_neg (fun hh => hw hh.2), if_neg (fun hh => hw hh.2)]
theorem alE {f g : Nat → Bool} {i : Nat} : ∀ (l : List Nat), (∀ x ∈ l, g x = true → f x = true) → i ∈ l → f i = true → g i = false → l.countP g < l.countP f
 | [], _, hi, _, _ => by simp at hi
 | x :: l, h, hi, hfi, hgi => by
  have hle : l.countP g ≤ l.countP f := List.countP_mono_left (fun y hy => h y (by simp [hy]))
  by_cases e : x = i
  ·subst e
   simp [List.countP_cons, hfi, hgi]; omega
  ·have hi' : i ∈ l := by simpa [Ne.symm e] using hi
   have := alE l (fun y hy => h y (by simp [hy])) hi' hfi hgi
   have hx := h x (by simp)
   simp only [List.countP_cons]
   cases hg : g x <;> cases hff : f x <;> simp_all <;> omega
theorem avP (hops : aiE P E Γ) (hF : FOK X) (hok : ops.toList.all (agU X.nt) = true) (hn : n = ops.size)
  (hstep : ∀ i o, ops[i]? = some o → aat E Γ ops o (s i) = some (s (i + 1), t i))
  (hord : ∀ i j, i < n → j < i → Anc ops i j ∨ agG (t j) (t i) = true)
  (hedge : ∀ i o, ops[i]? = some o → ∀ e ∈ o.after, Region.binds .any e = true → e.on < i)
  (hend : ∀ G' a' w', Rel X G' (s n) a' w' → Q .normal a' w') :
  ∀ (fuel : Nat) (listed : Array Bool) (G : Gh) (a : Act) (w : World), listed.size = n → (List.range n).countP (fun i => !listed.getD i false) ≤ fuel →
   (∀ i o, ops[i]? = some o → listed.getD i false = true → ∀ e ∈ o.after, Region.binds .any e = true → listed.getD e.on false = true) →
   Rel X G (fun l => yG s t (fun i => listed.getD i false) l n) a w → wpAny P .any ops Q fuel listed a w := by
 have hfr : ∀ i, i < n → ∀ l, l ∉ (t i).2 → s (i + 1) l = s i l := by
  intro i hi l hl
  have : ops[i]? = some ops[i] := Array.getElem?_eq_getElem (by omega)
  exact (aiQ (hstep i _ this)).1 l hl
 have closed : ∀ {S : Nat → Bool}, (∀ i o, ops[i]? = some o → S i = true → ∀ e ∈ o.after, Region.binds .any e = true → S e.on = true) → ∀ {i j}, Anc ops i j → S i = true → S j = true := by
  intro S hS i j h
  induction h with
  | one ho he hb => intro hi; exact hS _ _ ho hi _ he hb
  | more ho he hb h ih => intro hi; exact ih (hS _ _ ho hi _ he hb)
 have ready_all : ∀ (listed : Array Bool), listed.size = n → Region.ready .any ops listed = [] → ∀ i, i < n → listed.getD i false = true := by
  intro listed hsz hr i
  induction i using Nat.strongRecOn with
  | _ i ih =>
   intro hi
   cases hl : listed.getD i false with
   | true => rfl
   | false =>
    exfalso
    have ho : ops[i]? = some ops[i] := Array.getElem?_eq_getElem (by omega)
    have : i ∈ Region.ready .any ops listed := mem_ready.2 ⟨by
     have hlt : i < listed.size := by omega
     simpa [Array.getD_eq_getD_getElem?, Array.getElem?_eq_getElem hlt] using hl, _, ho, fun e he hb => by
     have := hedge i _ ho e he hb
     exact ih e.on this (by omega)⟩
    rw [hr] at this
    cases this
 have fin : ∀ (listed : Array Bool) (G : Gh) (a : Act) (w : World), (∀ i, i < n → listed.getD i false = true) → Rel X G (fun l => yG s t (fun i => listed.getD i false) l n) a w → Q .normal a w := by
  intro listed G a w hall R
  refine hend G a w ?_
  have : (fun l => yG s t (fun i => listed.getD i false) l n) = s n := by
   funext l
   exact akC (fun i hi hl => hfr i hi l hl) n (Nat.le_refl _) (fun j hj _ => hall j hj)
  rwa [this] at R
 intro fuel
 induction fuel with
 | zero =>
  intro listed G a w hsz hc hcl R
  have hall : ∀ i, i < n → listed.getD i false = true := by
   intro i hi
   have h0 : (List.range n).countP (fun i => !listed.getD i false) = 0 := by omega
   have := (List.countP_eq_zero.1 h0) i (by simpa using hi)
   simpa using this
  refine ⟨?_, fin listed G a w hall R⟩
  refine List.eq_nil_iff_forall_not_mem.2 (fun j hj => ?_)
  obtain ⟨h0, o, ho, _⟩ := mem_ready.1 hj
  have hlt := (Array.getElem?_eq_some_iff.1 ho).1
  have := hall j (by omega)
  have hlt' : j < listed.size := by omega
  simp [Array.getD_eq_getD_getElem?, Array.getElem?_eq_getElem hlt'] at h0 this
  rw [h0] at this; cases this
 | succ fuel ih =>
  intro listed G a w hsz hc hcl R
  refine ⟨fun hr => fin listed G a w (ready_all listed hsz hr) R, fun i hi => ?_⟩
  obtain ⟨h0, o, ho, hpre⟩ := mem_ready.1 hi
  have hin : i < n := by have := (Array.getElem?_eq_some_iff.1 ho).1; omega
  have hlt : i < listed.size := by omega
  have hSi : listed.getD i false = false := by
   simp [Array.getD_eq_getD_getElem?, Array.getElem?_eq_getElem hlt] at h0 ⊢
   exact h0
  have hS' : ∀ j, (listed.setIfInBounds i true).getD j false = if i = j then true else listed.getD j false := by
   intro j
   simp only [Array.getD_eq_getD_getElem?, Array.getElem?_setIfInBounds]
   by_cases e : i = j
   ·subst e; simp [hlt]
   ·simp [e]
  have hcl' : ∀ i' o', ops[i']? = some o' → (listed.setIfInBounds i true).getD i' false = true → ∀ e ∈ o'.after, Region.binds .any e = true → (listed.setIfInBounds i true).getD e.on false = true := by
   intro i' o' ho' hi' e he hb
   rw [hS'] at hi' ⊢
   split
   ·rfl
   ·split at hi'
    ·rename_i e1; subst e1
     rw [ho] at ho'; obtain rfl := Option.some.inj ho'
     exact hpre e he hb
    ·exact hcl i' o' ho' hi' e he hb
  have later : ∀ j l, i < j → j < n → listed.getD j false = true → l ∈ (t j).2 → (l ∈ (t i).1 ∨ l ∈ (t i).2) → False := by
   intro j l hij hj hSj hl hor
   rcases hord j i hj hij with han | hap
   ·have := closed hcl han hSj
    rw [hSi] at this; cases this
   ·simp only [agG, Bool.and_eq_true] at hap
    rcases hor with h' | h'
    ·exact ahK hap.2 h' hl
    ·exact ahK hap.1.2 h' hl
  have earlier : ∀ j l, j < i → l ∈ (t j).2 → l ∈ (t i).1 → listed.getD j false = true := by
   intro j l hji hl hr
   rcases hord i j hin hji with han | hap
   ·have h1 : (listed.setIfInBounds i true).getD i false = true := by rw [hS']; simp
    have := closed (S := fun k => (listed.setIfInBounds i true).getD k false) hcl' han h1
    simp only [hS'] at this
    rw [if_neg (by omega)] at this
    exact this
   ·simp only [agG, Bool.and_eq_true] at hap
    exact (ahK hap.1.1 hl hr).elim
  have hst := hstep i o ho
  obtain ⟨_, hframe⟩ := aiQ hst
  obtain ⟨s1', h1, h2, h3⟩ := hframe (fun l => yG s t (fun i => listed.getD i false) l n) (fun l hl => by
   rw [ae3 (i := i) n (by omega) (fun j h1 h2 h3 h4 => by
    by_cases e : i = j
    ·subst e; rw [hSi] at h3; cases h3
    ·exact later j l (by omega) h2 h3 h4 (.inl hl))]
   exact akC (fun i hi hl => hfr i hi l hl) i (by omega) (fun j hj hw => earlier j l hj hw hl))
  refine aqd hops hF ho ?_ h1 R (fun G' a' w' R' => ?_)
  ·exact (List.all_eq_true.1 hok) o (Array.mem_toList_iff.2 (Array.mem_of_getElem? ho))
  ·refine ih _ G' a' w' (by simpa using hsz) ?_ hcl' ?_
   ·have hlt := alE (f := fun j => !listed.getD j false) (g := fun j => !(listed.setIfInBounds i true).getD j false) (i := i) (List.range n) (fun x _ hx => by
     rw [hS'] at hx
     split at hx
     ·simp at hx
     ·exact hx) (by simpa using hin) (by simp [hSi]) (by simp only [hS']; simp)
    omega
   ·have : s1' = fun l => yG s t (fun j => (listed.setIfInBounds i true).getD j false) l n := by
     funext l
     by_cases hw : l ∈ (t i).2
     ·rw [h2 l hw]
      rw [ae3 (i := i + 1) n (by omega) (fun j h1 h2 h3 h4 => by
       rw [hS', if_neg (by omega)] at h3
       exact later j l (by omega) h2 h3 h4 (.inr hw))]
      unfold yG
      rw [if_pos ⟨by rw [hS']; simp, hw⟩]
     ·rw [h3 l hw]
      refine aml n (fun j hj hlj => ?_)
      rw [hS', if_neg (fun e => by subst e; exact hw hlj)]
    rw [← this]; exact R'
end
theorem Rel.drew (R : Rel X G st a w) : Rel X G st a { w with drawn := w.drawn + 1 } := R.ext ⟨rfl, rfl, rfl, Nat.le_refl _, fun _ _ => rfl⟩
theorem ati (EO : fS P E) (hops : aiE P E Γ) : amf P E Γ := by
 intro ops st k out h id X G a w Q hF hok R hK
 obtain ⟨s, t, h0, hs, hk⟩ := aiz ops.toList st [] h
 simp only [List.append_nil, Array.length_toList] at hk
 split at hk
 ·rename_i hc
  simp only [Bool.and_eq_true] at hc
  have hstep : ∀ i o, ops[i]? = some o → aat E Γ ops o (s i) = some (s (i + 1), t i) := fun i o ho => hs i o (by rw [Array.getElem?_toList]; exact ho)
  refine wp_region_any EO.mixed (avP (n := ops.size) (s := s) (t := t) hops hF hok rfl hstep (fun i j hi hj => ?_) ?_ (fun G' a' w' R' => hK _ hk G' a' w' R') ops.size _ G a _ (by simp) ?_ ?_ ?_)
  ·exact (akm ops.size hc.2 i j hi hj).imp (asT ops i j) (fun h => h)
  ·intro i o ho e he hb
   have h1 := hc.1
   simp only [xA, List.all_eq_true] at h1
   have hm : (o, i) ∈ ops.toList.zipIdx := by
    rw [List.mem_zipIdx_iff_getElem?, Array.getElem?_toList]; exact ho
   have h2 := Array.all_eq_true_iff_forall_mem.1 (h1 (o, i) hm) e he
   simp only [hb, Bool.not_true, Bool.false_or] at h2
   exact Nat.le_of_ble_eq_true h2
  ·exact Nat.le_trans List.countP_le_length (by simp)
  ·intro i o ho hl
   exfalso
   simp [Array.getD_eq_getD_getElem?, Array.getElem?_replicate] at hl
   split at hl <;> simp at hl
  ·have : (fun l => yG s t (fun i => (Array.replicate ops.size false).getD i false) l ops.size) = st := by
    funext l
    rw [ae3 (i := 0) ops.size (by omega) (fun j _ hj hl => by
     exfalso
     simp [Array.getD_eq_getD_getElem?, Array.getElem?_replicate, hj] at hl)]
    simp [yG, h0]
   rw [this]; exact R.drew
 ·cases hk
end
end PX
set_option linter.unusedVariables false
set_option linter.unusedSimpArgs false
namespace PX
open Go
structure Sat (G G' : Gh) (c : List Cn) (N : List (Nat × Value)) : Prop where
 F : ∀ k, G.F k → G'.F k
 bx : ∀ o n, Cn.bx o n ∈ c → G'.bb n = G.bb o
 rw : ∀ o n, Cn.rw o n ∈ c → G'.rv n = G.rv o
 it : ∀ o n, Cn.it o n ∈ c → G'.ib n = G.ib o
 fz : ∀ o, Cn.fz o ∈ c → ∀ g, rowBlk (G.rv o) = some g → G'.F g
 nil : ∀ p ∈ N, G'.rv p.1 = p.2
theorem Sat.left {G G' : Gh} {c d : List Cn} {N M : List (Nat × Value)} (h : Sat G G' (c ++ d) (N ++ M)) : Sat G G' c N :=
 ⟨h.F, fun o n hm => h.bx o n (by simp [hm]), fun o n hm => h.rw o n (by simp [hm]), fun o n hm => h.it o n (by simp [hm]), fun o hm => h.fz o (by simp [hm]), fun p hp => h.nil p (by simp [hp])⟩
theorem Sat.right {G G' : Gh} {c d : List Cn} {N M : List (Nat × Value)} (h : Sat G G' (c ++ d) (N ++ M)) : Sat G G' d M :=
 ⟨h.F, fun o n hm => h.bx o n (by simp [hm]), fun o n hm => h.rw o n (by simp [hm]), fun o n hm => h.it o n (by simp [hm]), fun o hm => h.fz o (by simp [hm]), fun p hp => h.nil p (by simp [hp])⟩
def nils : List Cn → List Nat
 | [] => []
 | .nilr n _ _ _ :: r => n :: nils r
 | _ :: r => nils r
theorem w9 : ∀ c d : List Cn, nils (c ++ d) = nils c ++ nils d
 | [], d => rfl
 | x :: c, d => by cases x <;> simp [nils, w9 c d]
def newLoc : Cn → Option Loc
 | .bx _ n => some (.bx n)
 | .rw _ n => some (.rw n)
 | .nilr n _ _ _ => some (.rw n)
 | .it _ n => some (.it n)
 | .fz _ => none
def vB (st : Sto) : Cn → Prop
 | .rw o _ => ∃ ks e b xs, st (.rw o) = .row ks e b xs false
 | .fz o => ∃ ks e b xs f, st (.rw o) = .row ks e b xs f
 | .nilr _ ks _ _ => ks.all CK.isData = true ∧ 0 < ks.length
 | .it o _ => ∃ s p, st (.it o) = .iter s p
 | _ => True
structure as0 (G : Gh) (w : World) (v' : AV) (c : List Cn) (N : List (Nat × Value)) (u : Value) : Prop where
 names : N.map (·.1) = nils c
 empty : ∀ p ∈ N, ∃ b, p.2 = .slice b 0 0
 val : ∀ G', Sat G G' c N → AVR G' w v' u
 refs : ∀ l ∈ v'.refs, ∃ x ∈ c, newLoc x = some l
structure aCb (G : Gh) (w : World) (vs' : List AV) (c : List Cn) (N : List (Nat × Value)) (us : List Value) : Prop where
 names : N.map (·.1) = nils c
 empty : ∀ p ∈ N, ∃ b, p.2 = .slice b 0 0
 val : ∀ G', Sat G G' c N → AVRs G' w vs' us
 refs : ∀ l ∈ AV.refsL vs', ∃ x ∈ c, newLoc x = some l
section
variable {P : Program} {E : Env} {Γ : Fun} {X : Ctx} {G : Gh} {st : Sto} {a : Act} {w : World}
theorem Sat.yR {G' : Gh} {c N} {v : AV} {u : Value} (h : AVR G w v u) (hr : v.refs = []) (hs : Sat G G' c N) : AVR G' w v u :=
 h.mono hs.F (fun _ _ => rfl) (fun l hl => by rw [hr] at hl; cases hl)
theorem as0.plain {v' : AV} {u : Value} (h : ∀ G', (∀ k, G.F k → G'.F k) → AVR G' w v' u) (hr : v'.refs = []) : as0 G w v' [] [] u :=
 ⟨rfl, by simp, fun G' hs => h G' hs.F, by rw [hr]; simp⟩
theorem aq1 {ks : List CK} : (adU ks && !ks.isEmpty) = true ↔ ks.all CK.isData = true ∧ 0 < ks.length := by
 cases ks <;> simp [adU]
mutual
theorem aly (R : Rel X G st a w) : ∀ (sh : Sh) {v : AV} {u : Value} {v' : AV} {c : List Cn}, conv st sh v = some (v', c) → AVR G w v u →
  (∃ N, as0 G w v' c N u) ∧ (∀ x ∈ c, vB st x) ∧ Sh.co sh v' = v' ∧ (v.one = true → v'.one = true)
 | .int k, v, u, v', c, h, hv => by
  cases hv <;> (try simp only [conv] at h) <;> first | (cases h; done) | skip
  case d kk x hd =>
   cases x <;> (try simp only [conv] at h) <;> first | (cases h; done) | skip
   split at h
   ·rename_i hk
    have := aeu hk; subst this
    simp only [Option.some.injEq, Prod.mk.injEq] at h
    obtain ⟨rfl, rfl⟩ := h
    exact ⟨⟨[], .plain (fun G' hF => .d (hd.mono hF (fun _ _ => rfl))) rfl⟩, by simp, rfl, fun _ => rfl⟩
   ·cases h
 | .bool, v, u, v', c, h, hv => by
  cases hv <;> (try simp only [conv] at h) <;> first | (cases h; done) | skip
  case d kk x hd =>
   cases x <;> (try simp only [conv] at h) <;> first | (cases h; done) | skip
   simp only [Option.some.injEq, Prod.mk.injEq] at h
   obtain ⟨rfl, rfl⟩ := h
   exact ⟨⟨[], .plain (fun G' hF => .d (hd.mono hF (fun _ _ => rfl))) rfl⟩, by simp, rfl, fun _ => rfl⟩
 | .str, v, u, v', c, h, hv => by
  cases hv <;> (try simp only [conv] at h) <;> first | (cases h; done) | skip
  case d kk x hd =>
   cases x <;> (try simp only [conv] at h) <;> first | (cases h; done) | skip
   simp only [Option.some.injEq, Prod.mk.injEq] at h
   obtain ⟨rfl, rfl⟩ := h
   exact ⟨⟨[], .plain (fun G' hF => .d (hd.mono hF (fun _ _ => rfl))) rfl⟩, by simp, rfl, fun _ => rfl⟩
 | .sl ks, v, u, v', c, h, hv => by
  cases hv <;> (try simp only [conv] at h) <;> first | (cases h; done) | skip
  case d kk x hd =>
   cases x <;> (try simp only [conv] at h) <;> first | (cases h; done) | skip
   split at h
   ·rename_i hk
    have := gM hk; subst this
    simp only [Option.some.injEq, Prod.mk.injEq] at h
    obtain ⟨rfl, rfl⟩ := h
    exact ⟨⟨[], .plain (fun G' hF => .d (hd.mono hF (fun _ _ => rfl))) rfl⟩, by simp, rfl, fun _ => rfl⟩
   ·cases h
  case nil b =>
   split at h
   ·rename_i hk
    simp only [Option.some.injEq, Prod.mk.injEq] at h
    obtain ⟨rfl, rfl⟩ := h
    exact ⟨⟨[], .plain (fun G' hF => .d (.sl ks [] b 0 (fun _ _ => undef) (by simp) (by simp) (by simp) hk (by simp) (by simp))) rfl⟩, by simp, rfl, fun _ => rfl⟩
   ·cases h
  case row r =>
   split at h
   ·rename_i ks' e by_ xs fz hr
    split at h
    ·rename_i hk
     have := gM hk; subst this
     simp only [Option.some.injEq, Prod.mk.injEq] at h
     obtain ⟨rfl, rfl⟩ := h
     obtain ⟨q1, q2, q3, q4, q5⟩ := R.rw r _ _ _ _ _ hr
     refine ⟨⟨[], rfl, by simp, fun G' hs => .d (k := .sl ks) ?_, by simp [AV.refs]⟩, fun x hx => by (obtain rfl := List.mem_singleton.1 hx); simp only [vB]; exact ⟨_, _, _, _, by first | exact hr | exact ⟨_, hr⟩⟩, rfl, fun _ => rfl⟩
     exact (q4.mono hs.F (fun _ _ => rfl) (fun _ _ => rfl)).data q3 (fun g hg => hs.fz r (by simp) g hg)
    ·cases h
   ·cases h
  case win r lo n b a' n0 c0 c' hvv hn hc' ha =>
   split at h
   ·rename_i ks' e by_ xs fz hr
    split at h
    ·rename_i hk
     have := gM hk; subst this
     simp only [Option.some.injEq, Prod.mk.injEq] at h
     obtain ⟨rfl, rfl⟩ := h
     obtain ⟨q1, q2, q3, q4, q5⟩ := R.rw r _ _ _ _ _ hr
     have hwin : AVR G w (.win r lo n) (.slice a' n c') := .win r lo n b a' n0 c0 c' hvv hn hc' ha
     refine ⟨⟨[], rfl, by simp, fun G' hs => .d (k := .sl ks) ?_, by simp [AV.refs]⟩, fun x hx => by (obtain rfl := List.mem_singleton.1 hx); simp only [vB]; exact ⟨_, _, _, _, by first | exact hr | exact ⟨_, hr⟩⟩, rfl, fun _ => rfl⟩
     obtain ⟨⟨base, cc, z1, z2, z3, z4⟩, z5⟩ := (adT R hr hwin).1
     have hs' : SlV G'.F w ks ((xs.drop lo).take n) (.slice a' n c') :=
      ⟨⟨base, cc, z1, z2, z3, fun ad j el i d k y1 y2 y3 y4 => by obtain ⟨u, hu, hd⟩ := z4 ad j el i d k y1 y2 y3 y4; exact ⟨u, hu, hd.mono hs.F (fun _ _ => rfl)⟩⟩, z5⟩
     refine hs'.data q3 (fun b' n' c'' hb hx => ?_)
     rw [hb] at hwin
     exact hs.fz r (by simp) _ (ajJ R hr hwin hx)
    ·cases h
   ·cases h
 | .row k ks e by_, v, u, v', c, h, hv => by
  cases hv <;> (try simp only [conv] at h) <;> first | (cases h; done) | skip
  case nil b =>
   split at h
   ·rename_i hk
    simp only [Option.some.injEq, Prod.mk.injEq] at h
    obtain ⟨rfl, rfl⟩ := h
    refine ⟨⟨[(k, .slice b 0 0)], rfl, by simp, fun G' hs => ?_, ?_⟩, by simpa [vB] using aq1.1 hk, rfl, fun _ => rfl⟩
    ·have := hs.nil (k, .slice b 0 0) (by simp)
     have h2 := AVR.row (G := G') (w := w) k
     rwa [this] at h2
    ·intro l hl
     simp only [AV.refs, List.mem_singleton] at hl
     subst hl
     exact ⟨_, List.mem_singleton.2 rfl, rfl⟩
   ·cases h
  case row r =>
   split at h
   ·rename_i ks' e' by' xs hr
    split at h
    ·rename_i hk
     simp only [Option.some.injEq, Prod.mk.injEq] at h
     obtain ⟨rfl, rfl⟩ := h
     refine ⟨⟨[], rfl, by simp, fun G' hs => ?_, ?_⟩, fun x hx => by (obtain rfl := List.mem_singleton.1 hx); simp only [vB]; exact ⟨_, _, _, _, by first | exact hr | exact ⟨_, hr⟩⟩, rfl, fun _ => rfl⟩
     ·have := hs.rw r k (by simp)
      rw [← this]; exact .row k
     ·intro l hl
      simp only [AV.refs, List.mem_singleton] at hl
      subst hl
      exact ⟨_, List.mem_singleton.2 rfl, rfl⟩
    ·cases h
   ·cases h
 | .win r, v, u, v', c, h, hv => by cases hv <;> (try simp only [conv] at h) <;> cases h
 | .ptr b o, v, u, v', c, h, hv => by
  cases hv <;> (try simp only [conv] at h) <;> first | (cases h; done) | skip
  case ptr b' o' =>
   split at h
   ·rename_i hk
    have := Nat.eq_of_beq_eq_true hk; subst this
    simp only [Option.some.injEq, Prod.mk.injEq] at h
    obtain ⟨rfl, rfl⟩ := h
    refine ⟨⟨[], rfl, by simp, fun G' hs => ?_, ?_⟩, by simp [vB], rfl, fun _ => rfl⟩
    ·have := hs.bx b' b (by simp)
     rw [← this]; exact .ptr b o
    ·intro l hl
     simp only [AV.refs, List.mem_singleton] at hl
     subst hl
     exact ⟨_, List.mem_singleton.2 rfl, rfl⟩
   ·cases h
 | .agg ss, v, u, v', c, h, hv => by
  cases hv <;> (try simp only [conv] at h) <;> first | (cases h; done) | skip
  case agg cs vs hcs =>
   split at h
   ·rename_i l c' hl
    simp only [Option.some.injEq, Prod.mk.injEq] at h
    obtain ⟨rfl, rfl⟩ := h
    obtain ⟨⟨N, h1⟩, h2, h3, _⟩ := uV R ss hl hcs
    exact ⟨⟨N, h1.names, h1.empty, fun G' hs => .agg _ _ (h1.val G' hs), by simpa [AV.refs] using h1.refs⟩, h2, by simp [Sh.co, cellsOf, h3], by simp [AV.one]⟩
   ·cases h
 | .it i, v, u, v', c, h, hv => by
  cases hv <;> (try simp only [conv] at h) <;> first | (cases h; done) | skip
  case it j =>
   split at h
   ·rename_i s p hit
    simp only [Option.some.injEq, Prod.mk.injEq] at h
    obtain ⟨rfl, rfl⟩ := h
    refine ⟨⟨[], rfl, by simp, fun G' hs => ?_, ?_⟩, fun x hx => by (obtain rfl := List.mem_singleton.1 hx); exact ⟨_, _, hit⟩, rfl, fun _ => rfl⟩
    ·have := hs.it j i (by simp)
     rw [← this]; exact .it i
    ·intro l hl
     simp only [AV.refs, List.mem_singleton] at hl
     subst hl
     exact ⟨_, List.mem_singleton.2 rfl, rfl⟩
   ·cases h
 | .nilp, v, u, v', c, h, hv => by
  cases hv <;> (try simp only [conv] at h) <;> first | (cases h; done) | skip
  simp only [Option.some.injEq, Prod.mk.injEq] at h
  obtain ⟨rfl, rfl⟩ := h
  exact ⟨⟨[], .plain (fun G' hF => .nilp) rfl⟩, by simp, rfl, fun _ => rfl⟩
 | .fn f xs ys, v, u, v', c, h, hv => by
  cases hv <;> (try simp only [conv] at h) <;> first | (cases h; done) | skip
  case fn g p q vp vq hp hq =>
   split at h
   ·rename_i hfg
    have := Nat.eq_of_beq_eq_true hfg; subst this
    split at h
    ·rename_i l c1 hl
     split at h
     ·rename_i l2 c2 hl2
      simp only [Option.some.injEq, Prod.mk.injEq] at h
      obtain ⟨rfl, rfl⟩ := h
      obtain ⟨⟨N1, h1⟩, h2, h3, _⟩ := uV R xs hl hp
      obtain ⟨⟨N2, k1⟩, k2, k3, _⟩ := uV R ys hl2 hq
      refine ⟨⟨N1 ++ N2, by simp [w9, h1.names, k1.names], fun p hp => ?_, fun G' hs => .fn _ _ _ _ _ (h1.val G' hs.left) (k1.val G' hs.right), fun l hl => ?_⟩, fun x hx => ?_, by simp [Sh.co, h3, k3], fun _ => rfl⟩
      ·rcases List.mem_append.1 hp with hp | hp
       ·exact h1.empty p hp
       ·exact k1.empty p hp
      ·simp only [AV.refs, List.mem_append] at hl
       rcases hl with hl | hl
       ·obtain ⟨x, hx, hn⟩ := h1.refs l hl; exact ⟨x, by simp [hx], hn⟩
       ·obtain ⟨x, hx, hn⟩ := k1.refs l hl; exact ⟨x, by simp [hx], hn⟩
      ·rcases List.mem_append.1 hx with hx | hx
       ·exact h2 x hx
       ·exact k2 x hx
     ·cases h
    ·cases h
   ·cases h
 | .ifc t s, v, u, v', c, h, hv => by
  cases hv <;> (try simp only [conv] at h) <;> first | (cases h; done) | skip
  case ifc t' x y hx =>
   split at h
   ·rename_i htt
    have := Nat.eq_of_beq_eq_true htt; subst this
    split at h
    ·rename_i x' c' hl
     simp only [Option.some.injEq, Prod.mk.injEq] at h
     obtain ⟨rfl, rfl⟩ := h
     obtain ⟨⟨N, h1⟩, h2, h3, _⟩ := aly R s hl hx
     exact ⟨⟨N, h1.names, h1.empty, fun G' hs => .ifc _ _ _ (h1.val G' hs), by simpa [AV.refs] using h1.refs⟩, h2, by simp [Sh.co, h3], fun _ => rfl⟩
    ·cases h
   ·cases h
 | .any, v, u, v', c, h, hv => by
  have h' : v.refs = [] ∧ v' = v ∧ c = [] := by
   cases v <;> simp only [conv] at h <;> split at h <;> first | (cases h; done) | skip
   all_goals
    rename_i hr
    simp only [Option.some.injEq, Prod.mk.injEq] at h
    exact ⟨hr, h.1.symm, h.2.symm⟩
  obtain ⟨hr, rfl, rfl⟩ := h'
  exact ⟨⟨[], .plain (fun G' hF => hv.mono hF (fun _ _ => rfl) (fun l hl => by rw [hr] at hl; cases hl)) hr⟩, by simp, rfl, fun h => h⟩
theorem uV (R : Rel X G st a w) : ∀ (ss : List Sh) {vs : List AV} {us : List Value} {vs' : List AV} {c : List Cn}, xK st ss vs = some (vs', c) → AVRs G w vs us →
  (∃ N, aCb G w vs' c N us) ∧ (∀ x ∈ c, vB st x) ∧ Sh.coL ss vs' = vs' ∧ (vs.all AV.one = true → vs'.all AV.one = true)
 | [], vs, us, vs', c, h, hv => by
  cases hv <;> (try simp only [xK] at h) <;> first | (cases h; done) | skip
  simp only [Option.some.injEq, Prod.mk.injEq] at h
  obtain ⟨rfl, rfl⟩ := h
  exact ⟨⟨[], rfl, by simp, fun _ _ => .nil, by simp [AV.refsL]⟩, by simp, rfl, fun _ => rfl⟩
 | s :: ss, vs, us, vs', c, h, hv => by
  cases hv <;> (try simp only [xK] at h) <;> first | (cases h; done) | skip
  case cons x y vs us hx hs =>
   split at h
   ·rename_i x' c1 hl
    split at h
    ·rename_i l2 c2 hl2
     simp only [Option.some.injEq, Prod.mk.injEq] at h
     obtain ⟨rfl, rfl⟩ := h
     obtain ⟨⟨N1, h1⟩, h2, h3, h4⟩ := aly R s hl hx
     obtain ⟨⟨N2, k1⟩, k2, k3, k4⟩ := uV R ss hl2 hs
     refine ⟨⟨N1 ++ N2, by simp [w9, h1.names, k1.names], fun p hp => ?_, fun G' hs => .cons _ _ _ _ (h1.val G' hs.left) (k1.val G' hs.right), fun l hl => ?_⟩, fun x hx => ?_, by simp [Sh.coL, h3, k3], fun ho => ?_⟩
     ·rcases List.mem_append.1 hp with hp | hp
      ·exact h1.empty p hp
      ·exact k1.empty p hp
     ·simp only [AV.refsL, List.mem_append] at hl
      rcases hl with hl | hl
      ·obtain ⟨x, hx, hn⟩ := h1.refs l hl; exact ⟨x, by simp [hx], hn⟩
      ·obtain ⟨x, hx, hn⟩ := k1.refs l hl; exact ⟨x, by simp [hx], hn⟩
     ·rcases List.mem_append.1 hx with hx | hx
      ·exact h2 x hx
      ·exact k2 x hx
     ·simp only [List.all_cons, Bool.and_eq_true] at ho ⊢
      exact ⟨h4 ho.1, k4 ho.2⟩
    ·cases h
   ·cases h
end
end
end PX
set_option linter.unusedVariables false
set_option linter.unusedSimpArgs false
namespace PX
open Go
def afo (n : Nat) : List (Nat × Value) → Value
 | [] => .slice none 0 0
 | (m, u) :: r => if m = n then u else afo n r
def acz (G : Gh) (N : List (Nat × Value)) (n : Nat) : List Cn → Value
 | [] => .slice none 0 0
 | .rw o m :: r => if m = n then G.rv o else acz G N n r
 | .nilr m _ _ _ :: r => if m = n then afo n N else acz G N n r
 | _ :: r => acz G N n r
def alx (G : Gh) (n : Nat) : List Cn → Nat
 | [] => 0
 | .bx o m :: r => if m = n then G.bb o else alx G n r
 | _ :: r => alx G n r
def amc (G : Gh) (n : Nat) : List Cn → Nat
 | [] => 0
 | .it o m :: r => if m = n then G.ib o else amc G n r
 | _ :: r => amc G n r
def Gh.cut (G : Gh) (c : List Cn) (N : List (Nat × Value)) (L : Nat → Nat) : Gh :=
 ⟨fun k => G.F k ∨ ∃ o, Cn.fz o ∈ c ∧ rowBlk (G.rv o) = some k, fun n => alx G n c, fun n => acz G N n c, L, fun n => amc G n c⟩
theorem uD : ∀ {c : List Cn}, acf c = true → ∀ {x y : Cn}, x ∈ c → y ∈ c → x = y ∨ Cn.meets x y = false ∨ Cn.meets y x = false
 | [], _, x, y, hx, _ => by simp at hx
 | z :: c, h, x, y, hx, hy => by
  simp only [acf, Bool.and_eq_true, List.all_eq_true, Bool.not_eq_true'] at h
  rcases List.mem_cons.1 hx with rfl | hx1 <;> rcases List.mem_cons.1 hy with rfl | hy1
  ·exact .inl rfl
  ·exact .inr (.inl (h.1 y hy1))
  ·exact .inr (.inr (h.1 x hx1))
  ·exact uD h.2 hx1 hy1
theorem ad6 : ∀ {c : List Cn} {n : Nat}, n ∈ nils c → ∃ ks e b, Cn.nilr n ks e b ∈ c
 | [], n, h => by simp [nils] at h
 | x :: c, n, h => by
  cases x <;> simp only [nils] at h
  case nilr m ks e b =>
   rcases List.mem_cons.1 h with rfl | h
   ·exact ⟨ks, e, b, by simp⟩
   ·obtain ⟨ks, e, b, h⟩ := ad6 h; exact ⟨ks, e, b, by simp [h]⟩
  all_goals
   obtain ⟨ks, e, b, h⟩ := ad6 h; exact ⟨ks, e, b, by simp [h]⟩
theorem an3 : ∀ {c : List Cn} {n : Nat} {ks e b}, Cn.nilr n ks e b ∈ c → n ∈ nils c
 | [], n, ks, e, b, h => by simp at h
 | x :: c, n, ks, e, b, h => by
  rcases List.mem_cons.1 h with rfl | h
  ·simp [nils]
  ·have := an3 h
   cases x <;> simp [nils, this]
theorem al1 : ∀ {c : List Cn}, acf c = true → (nils c).Nodup
 | [], _ => by simp [nils]
 | x :: c, h => by
  simp only [acf, Bool.and_eq_true, List.all_eq_true, Bool.not_eq_true'] at h
  have ih := al1 h.2
  cases x <;> simp only [nils] <;> first | exact ih | skip
  case nilr m ks e b =>
   refine List.nodup_cons.2 ⟨fun hm => ?_, ih⟩
   obtain ⟨ks', e', b', hm⟩ := ad6 hm
   have := h.1 _ hm
   simp [Cn.meets] at this
theorem an4 : ∀ {N : List (Nat × Value)}, (N.map (·.1)).Nodup → ∀ {p}, p ∈ N → afo p.1 N = p.2
 | [], _, p, h => by simp at h
 | (m, u) :: N, hd, p, h => by
  simp only [List.map_cons, List.nodup_cons] at hd
  rcases List.mem_cons.1 h with rfl | h
  ·simp [afo]
  ·have hne : m ≠ p.1 := fun e => hd.1 (by rw [e]; exact List.mem_map_of_mem h)
   simp only [afo, if_neg hne]
   exact an4 hd.2 h
theorem akt : ∀ {N : List (Nat × Value)} {n : Nat}, (∀ p ∈ N, ∃ b, p.2 = .slice b 0 0) → ∃ b, afo n N = .slice b 0 0
 | [], n, _ => ⟨none, rfl⟩
 | (m, u) :: N, n, h => by
  simp only [afo]
  split
  ·exact h (m, u) (by simp)
  ·exact akt (fun p hp => h p (by simp [hp]))
theorem akZ (G : Gh) {o n : Nat} : ∀ {c : List Cn}, (∀ o', Cn.bx o' n ∈ c → o' = o) → Cn.bx o n ∈ c → alx G n c = G.bb o
 | [], _, h => by simp at h
 | x :: c, hu, h => by
  cases x <;> simp only [alx] <;> first | (exact akZ G (fun o' ho' => hu o' (by simp [ho'])) (by simpa using h)) | skip
  rename_i o' m
  split
  ·rename_i e; subst e; rw [hu o' (by simp)]
  ·rename_i e
   exact akZ G (fun o' ho' => hu o' (by simp [ho'])) (by
    rcases List.mem_cons.1 h with h | h
    ·injection h with e1 e2; exact absurd e2.symm e
    ·exact h)
theorem akX (G : Gh) {o n : Nat} : ∀ {c : List Cn}, (∀ o', Cn.it o' n ∈ c → o' = o) → Cn.it o n ∈ c → amc G n c = G.ib o
 | [], _, h => by simp at h
 | x :: c, hu, h => by
  cases x <;> simp only [amc] <;> first | (exact akX G (fun o' ho' => hu o' (by simp [ho'])) (by simpa using h)) | skip
  rename_i o' m
  split
  ·rename_i e; subst e; rw [hu o' (by simp)]
  ·rename_i e
   exact akX G (fun o' ho' => hu o' (by simp [ho'])) (by
    rcases List.mem_cons.1 h with h | h
    ·injection h with e1 e2; exact absurd e2.symm e
    ·exact h)
theorem ahj (G : Gh) (N) {o n : Nat} : ∀ {c : List Cn}, (∀ o', Cn.rw o' n ∈ c → o' = o) → (∀ ks e b, Cn.nilr n ks e b ∉ c) → Cn.rw o n ∈ c → acz G N n c = G.rv o
 | [], _, _, h => by simp at h
 | x :: c, hu, hn, h => by
  have tl : ∀ {p : Prop}, (Cn.rw o n ∈ c → p) → (x ≠ Cn.rw o n) → p := fun f hne => f ((List.mem_cons.1 h).resolve_left (Ne.symm hne))
  cases x <;> simp only [acz] <;> first | (exact ahj G N (fun o' ho' => hu o' (by simp [ho'])) (fun ks e b hm => hn ks e b (by simp [hm])) (by simpa using h)) | skip
  ·rename_i o' m
   split
   ·rename_i e; subst e; rw [hu o' (by simp)]
   ·rename_i e
    exact ahj G N (fun o' ho' => hu o' (by simp [ho'])) (fun ks e b hm => hn ks e b (by simp [hm])) (by
     rcases List.mem_cons.1 h with h | h
     ·injection h with e1 e2; exact absurd e2.symm e
     ·exact h)
  ·rename_i m ks e b
   split
   ·rename_i e'; subst e'; exact absurd (by simp) (hn ks e b)
   ·exact ahj G N (fun o' ho' => hu o' (by simp [ho'])) (fun ks e b hm => hn ks e b (by simp [hm])) (by simpa using h)
theorem afb (G : Gh) (N) {n : Nat} : ∀ {c : List Cn}, (∀ o', Cn.rw o' n ∉ c) → n ∈ nils c → acz G N n c = afo n N
 | [], _, h => by simp [nils] at h
 | x :: c, hu, h => by
  cases x <;> simp only [acz] <;> simp only [nils] at h <;> first | (exact afb G N (fun o' ho' => hu o' (by simp [ho'])) h) | skip
  ·rename_i o' m
   split
   ·rename_i e; subst e; exact absurd (by simp) (hu o')
   ·exact afb G N (fun o' ho' => hu o' (by simp [ho'])) h
  ·rename_i m ks e b
   split
   ·rfl
   ·rename_i e'
    exact afb G N (fun o' ho' => hu o' (by simp [ho'])) ((List.mem_cons.1 h).resolve_left (Ne.symm e'))
theorem aff {G : Gh} {N} (hN : ∀ p ∈ N, ∃ b, p.2 = Value.slice b 0 0) (hG : ∀ r, (G.rv r).oneCell' = true) {n : Nat} : ∀ c : List Cn, (acz G N n c).oneCell' = true
 | [] => rfl
 | x :: c => by
  cases x <;> simp only [acz] <;> first | exact aff hN hG c | skip
  ·split
   ·exact hG _
   ·exact aff hN hG c
  ·split
   ·obtain ⟨b, hb⟩ := akt (n := n) hN; rw [hb]; rfl
   ·exact aff hN hG c
theorem beq_false {x y : Nat} (h : x ≠ y) : Nat.beq x y = false := by
 cases hb : Nat.beq x y
 ·rfl
 ·exact absurd (Nat.eq_of_beq_eq_true hb) h
theorem Gh.ajX (G : Gh) {c : List Cn} {N : List (Nat × Value)} (L : Nat → Nat) (hc : acf c = true) (hN : N.map (·.1) = nils c) : Sat G (G.cut c N L) c N := by
 refine ⟨fun k hk => .inl hk, fun o n h => ?_, fun o n h => ?_, fun o n h => ?_, fun o h g hg => .inr ⟨o, h, hg⟩, fun p hp => ?_⟩
 ·refine akZ G (fun o' ho' => ?_) h
  rcases uD hc ho' h with e | e | e
  ·injection e
  ·simp only [Cn.meets, Nat.beq_refl, bne_eq_false_iff_eq] at e; exact Nat.eq_of_beq_eq_true e
  ·simp only [Cn.meets, Nat.beq_refl, bne_eq_false_iff_eq] at e; exact (Nat.eq_of_beq_eq_true e).symm
 ·refine ahj G N (fun o' ho' => ?_) (fun ks e b hm => ?_) h
  ·rcases uD hc ho' h with e | e | e
   ·injection e
   ·simp only [Cn.meets, Nat.beq_refl, bne_eq_false_iff_eq] at e; exact Nat.eq_of_beq_eq_true e
   ·simp only [Cn.meets, Nat.beq_refl, bne_eq_false_iff_eq] at e; exact (Nat.eq_of_beq_eq_true e).symm
  ·rcases uD hc hm h with e | e | e
   ·cases e
   ·simp [Cn.meets] at e
   ·simp [Cn.meets] at e
 ·refine akX G (fun o' ho' => ?_) h
  rcases uD hc ho' h with e | e | e
  ·injection e
  ·simp only [Cn.meets, Nat.beq_refl, bne_eq_false_iff_eq] at e; exact Nat.eq_of_beq_eq_true e
  ·simp only [Cn.meets, Nat.beq_refl, bne_eq_false_iff_eq] at e; exact (Nat.eq_of_beq_eq_true e).symm
 ·have hn : p.1 ∈ nils c := by rw [← hN]; exact List.mem_map_of_mem hp
  have hnd : (N.map (·.1)).Nodup := by rw [hN]; exact al1 hc
  rw [← an4 hnd hp]
  refine afb G N (fun o' ho' => ?_) hn
  obtain ⟨ks, e, b, hm⟩ := ad6 hn
  rcases uD hc ho' hm with e | e | e
  ·cases e
  ·simp [Cn.meets] at e
  ·simp [Cn.meets] at e
section
variable {P : Program} {E : Env} {Γ : Fun} {X : Ctx} {G : Gh} {st : Sto} {a : Act} {w : World}
def nK : LV → Nat | .row ks _ _ _ _ => ks.length | _ => 0
theorem am6 (R : Rel X G st a w) {c : List Cn} {N : List (Nat × Value)} {S : Sto} {a' : Act} {m : Nat} {lb' : Nat → Nat} {df' : List Deferred} (hc : acf c = true) (hN : N.map (·.1) = nils c) (hNe : ∀ p ∈ N, ∃ b, p.2 = Value.slice b 0 0)
  (hold : ∀ x ∈ c, vB st x) (hd : a'.defers = df') (hsz : a'.tmps.size = m)
  (htm : ∀ i v, S (.tm i) = .av v → i < m ∧ AVR (G.cut c N fun n => nK (S (.rw n))) w v (a'.tmps.getD i undef))
  (hbx : ∀ n t k, S (.bx n) = .bx t k → ∃ o, Cn.bx o n ∈ c ∧ st (.bx o) = .bx t k)
  (hbc : ∀ n i v, S (.bc n i) = .av v → ∃ o t k cs u, Cn.bx o n ∈ c ∧ S (.bx n) = .bx t k ∧ w.heap[G.bb o]? = some (.cells cs t (0, 0)) ∧ cs[i]? = some u ∧ AVR (G.cut c N fun n => nK (S (.rw n))) w v u ∧ v.one = true)
  (hrw : ∀ n ks e b xs fz, S (.rw n) = .row ks e b xs fz → fz = false ∧ ((∃ o, Cn.rw o n ∈ c ∧ st (.rw o) = .row ks e b xs false) ∨ (Cn.nilr n ks e b ∈ c ∧ xs = [])))
  (hit : ∀ n s p, S (.it n) = .iter s p → ∃ o, Cn.it o n ∈ c ∧ st (.it o) = .iter s p)
  (hlb : ∀ k t n, S (.bx (2000000000 + k)) = .bx t n → (G.cut c N fun n => nK (S (.rw n))).bb (2000000000 + k) = lb' k)
  (hreg : ∀ l v, S l = .av v → ∀ l' ∈ v.refs, S l' ≠ .none) :
  Rel { X with nt := m, lb := lb', df := df' } (G.cut c N fun n => nK (S (.rw n))) S a' w := by
 have sat := Gh.ajX G (fun n => nK (S (.rw n))) hc hN
 generalize hG' : (G.cut c N fun n => nK (S (.rw n))) = G' at *
 have hF' : ∀ k, G'.F k ↔ (G.F k ∨ ∃ o, Cn.fz o ∈ c ∧ rowBlk (G.rv o) = some k) := by intro k; subst hG'; exact Iff.rfl
 have hs0 : uY G.F w w := fun _ _ => rfl
 have hnilv : ∀ {n ks e b}, Cn.nilr n ks e b ∈ c → ∃ b, G'.rv n = .slice b 0 0 := by
  intro n ks e b h
  have hn : n ∈ N.map (·.1) := by rw [hN]; exact an3 h
  obtain ⟨p, hp, rfl⟩ := List.mem_map.1 hn
  obtain ⟨b, hb⟩ := hNe p hp
  exact ⟨b, by rw [sat.nil p hp]; exact hb⟩
 have fzF : ∀ k o, Cn.fz o ∈ c → rowBlk (G.rv o) = some k → k < w.heap.size ∧ (X.F0 k ∨ X.B ≤ k ∨ X.M k) ∧ (G.F k ∨ blk G st (.rw o) = some k) := by
  intro k o ho hk
  obtain ⟨ks, e, b, xs, f, h⟩ := hold _ ho
  obtain ⟨_, _, _, _, q5⟩ := R.rw o _ _ _ _ _ h
  cases f with
  | true => exact ⟨R.base.Flt _ (q5 rfl k hk), R.base.Fnew _ (q5 rfl k hk), .inl (q5 rfl k hk)⟩
  | false =>
   have hb : blk G st (.rw o) = some k := by simp [blk, h, hk]
   have := R.own _ k hb
   exact ⟨this.2.1, .inr this.2.2, .inr hb⟩
 have hblk : ∀ l k, blk G' S l = some k → (∃ o n, Cn.bx o n ∈ c ∧ l = .bx n ∧ blk G st (.bx o) = some k) ∨ (∃ o n, Cn.rw o n ∈ c ∧ l = .rw n ∧ blk G st (.rw o) = some k) ∨ (∃ o n, Cn.it o n ∈ c ∧ l = .it n ∧ blk G st (.it o) = some k) := by
  intro l k h
  cases l with
  | tm i => simp [blk] at h
  | bc i j => simp [blk] at h
  | bx n =>
   simp only [blk] at h
   split at h
   ·rename_i t kk hS
    obtain ⟨o, ho, hst⟩ := hbx n _ _ hS
    refine .inl ⟨o, n, ho, rfl, ?_⟩
    simp only [blk, hst]
    rw [← h, sat.bx o n ho]
   ·cases h
  | rw n =>
   simp only [blk] at h
   split at h
   ·rename_i ks e b xs hS
    rcases (hrw n _ _ _ _ _ hS).2 with ⟨o, ho, hst⟩ | ⟨ho, _⟩
    ·refine .inr (.inl ⟨o, n, ho, rfl, ?_⟩)
     simp only [blk, hst]
     rw [← h, sat.rw o n ho]
    ·obtain ⟨b', hb'⟩ := hnilv ho
     rw [hb'] at h
     cases b' <;> simp [rowBlk] at h
   ·cases h
  | it n =>
   simp only [blk] at h
   split at h
   ·rename_i s p hS
    obtain ⟨o, ho, hst⟩ := hit n _ _ hS
    refine .inr (.inr ⟨o, n, ho, rfl, ?_⟩)
    simp only [blk, hst]
    rw [← h, sat.it o n ho]
   ·cases h
 refine ⟨⟨R.base.os, R.base.tape, R.base.output, R.base.size, R.base.keep, fun k hk => (hF' k).2 (.inl (R.base.F0 k hk)), fun k hk => ?_, fun k hk => ?_⟩, hd, hsz, htm, ?_, ?_, ?_, ?_, hreg, ?_, ?_, ?_, hlb⟩
 ·rcases (hF' k).1 hk with hk | ⟨o, ho, hk⟩
  ·exact R.base.Flt k hk
  ·exact (fzF k o ho hk).1
 ·rcases (hF' k).1 hk with hk | ⟨o, ho, hk⟩
  ·exact R.base.Fnew k hk
  ·exact (fzF k o ho hk).2.1
 ·intro n t k h
  obtain ⟨o, ho, hst⟩ := hbx n t k h
  obtain ⟨cs, h1, h2⟩ := R.bx o t k hst
  exact ⟨cs, by rw [sat.bx o n ho]; exact h1, h2⟩
 ·intro n i v h
  obtain ⟨o, t, k, cs, u, ho, h1, h2, h3⟩ := hbc n i v h
  exact ⟨t, k, cs, u, h1, by rw [sat.bx o n ho]; exact h2, h3⟩
 ·intro n ks e b xs fz h
  have hrs : G'.rs n = ks.length := by subst hG'; simp [Gh.cut, h, nK]
  obtain ⟨rfl, h'⟩ := hrw n _ _ _ _ _ h
  rcases h' with ⟨o, ho, hst⟩ | ⟨ho, rfl⟩
  ·obtain ⟨q1, q2, q3, q4, q5⟩ := R.rw o _ _ _ _ _ hst
   refine ⟨hrs, q2, q3, ?_, fun h => by cases h⟩
   rw [sat.rw o n ho]
   exact q4.mono sat.F hs0 (fun _ _ => rfl)
  ·obtain ⟨h1, h2⟩ := hold _ ho
   obtain ⟨b', hb'⟩ := hnilv ho
   exact ⟨hrs, h2, h1, ⟨by simp, .inl ⟨b', hb', rfl⟩⟩, fun h => by cases h⟩
 ·intro n s p h
  obtain ⟨o, ho, hst⟩ := hit n s p h
  rw [sat.it o n ho]
  exact R.it o s p hst
 ·intro l l' k h1 h2
  rcases hblk l k h1 with ⟨o, n, ho, rfl, hb⟩ | ⟨o, n, ho, rfl, hb⟩ | ⟨o, n, ho, rfl, hb⟩ <;> rcases hblk l' k h2 with ⟨o', n', ho', rfl, hb'⟩ | ⟨o', n', ho', rfl, hb'⟩ | ⟨o', n', ho', rfl, hb'⟩ <;>
   have e := R.inj _ _ _ hb hb' <;> first | (cases e; done) | skip
  all_goals
   injection e with e
   subst e
   rcases uD hc ho ho' with e | e | e
   ·injection e with _ e; rw [e]
   ·simp only [Cn.meets, Nat.beq_refl, bne_eq_false_iff_eq] at e; rw [Nat.eq_of_beq_eq_true e.symm]
   ·simp only [Cn.meets, Nat.beq_refl, bne_eq_false_iff_eq] at e; rw [Nat.eq_of_beq_eq_true e.symm]
 ·intro l k h
  have key : ∃ l0, blk G st l0 = some k ∧ ∀ o, Cn.fz o ∈ c → l0 ≠ .rw o := by
   rcases hblk l k h with ⟨o, n, ho, rfl, hb⟩ | ⟨o, n, ho, rfl, hb⟩ | ⟨o, n, ho, rfl, hb⟩
   ·exact ⟨_, hb, fun _ _ => by simp⟩
   ·refine ⟨_, hb, fun o' ho' e => ?_⟩
    injection e with e
    subst e
    rcases uD hc ho ho' with e | e | e
    ·cases e
    ·simp [Cn.meets] at e
    ·simp [Cn.meets] at e
   ·exact ⟨_, hb, fun _ _ => by simp⟩
  obtain ⟨l0, hb, hne⟩ := key
  obtain ⟨h1, h2, h3⟩ := R.own l0 k hb
  refine ⟨fun hk => ?_, h2, h3⟩
  rcases (hF' k).1 hk with hk | ⟨o, ho, hk⟩
  ·exact h1 hk
  ·rcases (fzF k o ho hk).2.2 with hk | hk
   ·exact h1 hk
   ·exact hne o ho (R.inj _ _ _ hb hk)
 ·intro r
  subst hG'
  exact aff hNe R.rv1 c
end
end PX
set_option linter.unusedVariables false
set_option linter.unusedSimpArgs false
namespace PX
open Go
theorem sG : ∀ (bs : List Bx) (B : Nat) (s : Sto) (l : Loc), cX B bs s l = s l ∨ (∃ j b, bs[j]? = some b ∧ l = .bx (B + j) ∧ cX B bs s l = .bx b.t b.cells.length) ∨
  (∃ j b i x, bs[j]? = some b ∧ b.cells[i]? = some x ∧ l = .bc (B + j) i ∧ cX B bs s l = .av x)
 | [], B, s, l => .inl rfl
 | y :: bs, B, s, l => by
  simp only [cX]
  rcases sG bs (B + 1) (dV B 0 y.cells (s.upd (.bx B) (.bx y.t y.cells.length))) l with h | ⟨j, b, h1, h2, h3⟩ | ⟨j, b, i, x, h1, h2, h3, h4⟩
  ·rw [h, eD]
   cases l with
   | bx n =>
    simp only
    by_cases e : n = B
    ·subst e; exact .inr (.inl ⟨0, y, by simp, by simp, by simp⟩)
    ·exact .inl (bH _ _ (by simp; exact fun h => e h.symm))
   | bc n i =>
    simp only
    split
    ·rename_i hh
     obtain ⟨rfl, _, hlt⟩ := hh
     refine .inr (.inr ⟨0, y, i, y.cells.getD (i - 0) .dead, by simp, ?_, by simp, rfl⟩)
     simp [List.getD_eq_getElem?_getD, List.getElem?_eq_getElem (show i < y.cells.length by omega)]
    ·exact .inl (bH _ _ (by simp))
   | tm n => exact .inl (bH _ _ (by simp))
   | rw n => exact .inl (bH _ _ (by simp))
   | it n => exact .inl (bH _ _ (by simp))
  ·exact .inr (.inl ⟨j + 1, b, by simpa using h1, by rw [h2]; congr 1; omega, h3⟩)
  ·exact .inr (.inr ⟨j + 1, b, i, x, by simpa using h1, h2, by rw [h3]; congr 1; omega, h4⟩)
theorem ake {n : Nat} : ∀ (bs : List Bx) (B : Nat) (s : Sto), n < B → cX B bs s (.bx n) = s (.bx n)
 | [], B, s, h => rfl
 | y :: bs, B, s, h => by
  simp only [cX]
  rw [ake bs (B + 1) _ (by omega), eV _ _ _ _ (by simp), bH _ _ (by simp; omega)]
theorem xE : ∀ (bs : List Bx) (B : Nat) (s : Sto) {j : Nat} {b : Bx}, bs[j]? = some b → cX B bs s (.bx (B + j)) = .bx b.t b.cells.length
 | [], B, s, j, b, h => by simp at h
 | y :: bs, B, s, 0, b, h => by
  obtain rfl : y = b := by simpa using h
  simp only [cX, Nat.add_zero]
  rw [ake _ _ _ (by omega), eV _ _ _ _ (by simp)]
  simp
 | y :: bs, B, s, j + 1, b, h => by
  simp only [cX]
  rw [show B + (j + 1) = B + 1 + j by omega]
  exact xE bs (B + 1) _ (by simpa using h)
theorem amy : ∀ (tl : List (Nat × Sh)) (as : List AV) (s : Sto) (l : Loc), qV tl as s l = s l ∨ ∃ (j i : Nat) (sh : Sh) (x : AV), tl[j]? = some (i, sh) ∧ as[j]? = some x ∧ l = .tm i ∧ qV tl as s l = .av x
 | [], as, s, l => .inl (by simp [qV])
 | (i, sh) :: tl, [], s, l => .inl (by simp [qV])
 | (i, sh) :: tl, x :: as, s, l => by
  simp only [qV]
  rcases amy tl as (s.upd (.tm i) (.av x)) l with h | ⟨j, i', sh', x', h1, h2, h3, h4⟩
  ·by_cases e : Loc.tm i = l
   ·subst e; rw [h]; exact .inr ⟨0, i, sh, x, by simp, by simp, rfl, by simp⟩
   ·rw [h, bH _ _ e]; exact .inl rfl
  ·exact .inr ⟨j + 1, i', sh', x', by simpa using h1, by simpa using h2, h3, h4⟩
theorem afL (st : Sto) : ∀ (c : List Cn) (s : Sto) (l : Loc), wG st c s l = s l ∨ ∃ o n, Cn.it o n ∈ c ∧ l = .it n ∧ wG st c s l = st (.it o)
 | [], s, l => .inl rfl
 | x :: c, s, l => by
  cases x <;> simp only [wG] <;>
   first
    | (rcases afL st c s l with h | ⟨o, n, h1, h2, h3⟩; exact .inl h; exact .inr ⟨o, n, by simp [h1], h2, h3⟩)
    | skip
  rename_i o n
  rcases afL st c (s.upd (.it n) (st (.it o))) l with h | ⟨o', n', h1, h2, h3⟩
  ·by_cases e : Loc.it n = l
   ·subst e; rw [h]; exact .inr ⟨o, n, by simp, rfl, by simp⟩
   ·rw [h, bH _ _ e]; exact .inl rfl
  ·exact .inr ⟨o', n', by simp [h1], h2, h3⟩
theorem ac9 (st : Sto) {l : Loc} : ∀ (c : List Cn) (s : Sto), (∀ x ∈ c, vB st x) → (s l ≠ .none ∨ ∃ o n, Cn.it o n ∈ c ∧ l = .it n) → wG st c s l ≠ .none
 | [], s, _, h => by
  rcases h with h | ⟨o, n, h, _⟩
  ·exact h
  ·simp at h
 | x :: c, s, ho, h => by
  have ho' : ∀ x ∈ c, vB st x := fun y hy => ho y (by simp [hy])
  cases x <;> simp only [wG] <;> refine ac9 st c _ ho' ?_ <;> first | (simpa using h) | skip
  rename_i o n
  obtain ⟨s', p, hit⟩ := ho (.it o n) (by simp)
  rcases h with h | ⟨o', n', h, rfl⟩
  ·by_cases e : Loc.it n = l
   ·subst e; exact .inl (by simp [hit])
   ·exact .inl (by rw [bH _ _ e]; exact h)
  ·rcases List.mem_cons.1 h with h | h
   ·injection h with e1 e2; subst e1; subst e2; exact .inl (by simp [hit])
   ·exact .inr ⟨o', n', h, rfl⟩
theorem adk (st : Sto) : ∀ (c : List Cn) (s : Sto) (l : Loc), oT st c s l = s l ∨ (∃ o n, Cn.rw o n ∈ c ∧ l = .rw n ∧ oT st c s l = st (.rw o)) ∨ (∃ n ks e b, Cn.nilr n ks e b ∈ c ∧ l = .rw n ∧ oT st c s l = .row ks e b [] false)
 | [], s, l => .inl rfl
 | x :: c, s, l => by
  have up : ∀ s', (oT st c s' l = s' l ∨ (∃ o n, Cn.rw o n ∈ c ∧ l = .rw n ∧ oT st c s' l = st (.rw o)) ∨ (∃ n ks e b, Cn.nilr n ks e b ∈ c ∧ l = .rw n ∧ oT st c s' l = .row ks e b [] false)) →
    oT st c s' l = s' l ∨ (∃ o n, Cn.rw o n ∈ x :: c ∧ l = .rw n ∧ oT st c s' l = st (.rw o)) ∨ (∃ n ks e b, Cn.nilr n ks e b ∈ x :: c ∧ l = .rw n ∧ oT st c s' l = .row ks e b [] false) := by
   intro s' h
   rcases h with h | ⟨o, n, h1, h2, h3⟩ | ⟨n, ks, e, b, h1, h2, h3⟩
   ·exact .inl h
   ·exact .inr (.inl ⟨o, n, by simp [h1], h2, h3⟩)
   ·exact .inr (.inr ⟨n, ks, e, b, by simp [h1], h2, h3⟩)
  cases x <;> simp only [oT] <;> first | exact up s (adk st c s l) | skip
  ·rename_i o n
   rcases up _ (adk st c (s.upd (.rw n) (st (.rw o))) l) with h | h
   ·by_cases e : Loc.rw n = l
    ·subst e; rw [h]; exact .inr (.inl ⟨o, n, by simp, rfl, by simp⟩)
    ·rw [h, bH _ _ e]; exact .inl rfl
   ·exact .inr h
  ·rename_i n ks e b
   rcases up _ (adk st c (s.upd (.rw n) (.row ks e b [] false)) l) with h | h
   ·by_cases e' : Loc.rw n = l
    ·subst e'; rw [h]; exact .inr (.inr ⟨n, ks, e, b, by simp, rfl, by simp⟩)
    ·rw [h, bH _ _ e']; exact .inl rfl
   ·exact .inr h
theorem aiy (st : Sto) {l : Loc} : ∀ (c : List Cn) (s : Sto), (∀ x ∈ c, vB st x) → (s l ≠ .none ∨ (∃ o n, Cn.rw o n ∈ c ∧ l = .rw n) ∨ ∃ n ks e b, Cn.nilr n ks e b ∈ c ∧ l = .rw n) → oT st c s l ≠ .none
 | [], s, _, h => by
  rcases h with h | ⟨o, n, h, _⟩ | ⟨n, ks, e, b, h, _⟩
  ·exact h
  ·simp at h
  ·simp at h
 | x :: c, s, ho, h => by
  have ho' : ∀ x ∈ c, vB st x := fun y hy => ho y (by simp [hy])
  cases x <;> simp only [oT] <;> refine aiy st c _ ho' ?_ <;> first | (simpa using h) | skip
  ·rename_i o n
   obtain ⟨ks, e, b, xs, hrow⟩ := ho (.rw o n) (by simp)
   by_cases e' : Loc.rw n = l
   ·subst e'; exact .inl (by simp [hrow])
   ·rw [bH _ _ e']
    rcases h with h | ⟨o', n', h, rfl⟩ | ⟨n', ks', e2, b', h, rfl⟩
    ·exact .inl h
    ·rcases List.mem_cons.1 h with h | h
     ·injection h with e1 e2; subst e2; exact absurd rfl e'
     ·exact .inr (.inl ⟨o', n', h, rfl⟩)
    ·rcases List.mem_cons.1 h with h | h
     ·cases h
     ·exact .inr (.inr ⟨n', ks', e2, b', h, rfl⟩)
  ·rename_i n ks e b
   by_cases e' : Loc.rw n = l
   ·subst e'; exact .inl (by simp)
   ·rw [bH _ _ e']
    rcases h with h | ⟨o', n', h, rfl⟩ | ⟨n', ks', e2, b', h, rfl⟩
    ·exact .inl h
    ·rcases List.mem_cons.1 h with h | h
     ·cases h
     ·exact .inr (.inl ⟨o', n', h, rfl⟩)
    ·rcases List.mem_cons.1 h with h | h
     ·injection h with e1; subst e1; exact absurd rfl e'
     ·exact .inr (.inr ⟨n', ks', e2, b', h, rfl⟩)
theorem ai8 {base nb nl nr : Nat} {f : Bool} {x : Cn} {c : List Cn} (h : pX base nb nl nr f (x :: c) = true) : pX base nb nl nr f c = true := by
 cases x <;> simp only [pX, Bool.and_eq_true] at h <;> first | exact h | exact h.2
theorem aiq {base nb nl nr : Nat} {f : Bool} {o n : Nat} : ∀ {c : List Cn}, pX base nb nl nr f c = true → Cn.bx o n ∈ c → (base ≤ n ∧ n < base + nb) ∨ (2000000000 ≤ n ∧ n < 2000000000 + nl)
 | [], _, h => by simp at h
 | x :: c, h, hm => by
  have tl := ai8 h
  rcases List.mem_cons.1 hm with rfl | hm'
  ·simp only [pX, Bool.and_eq_true, Bool.or_eq_true] at h
   exact h.1.imp (fun h => ⟨Nat.le_of_ble_eq_true h.1, Nat.le_of_ble_eq_true h.2⟩) (fun h => ⟨Nat.le_of_ble_eq_true h.1, Nat.le_of_ble_eq_true h.2⟩)
  ·exact aiq tl hm'
theorem ae9 {base nb nl nr : Nat} {n : Nat} : ∀ {c : List Cn}, pX base nb nl nr false c = true → ((∃ o, Cn.rw o n ∈ c) ∨ ∃ ks e b, Cn.nilr n ks e b ∈ c) → n < nr
 | [], _, h => by simp at h
 | x :: c, h, hm => by
  have tl := ai8 h
  rcases hm with ⟨o, hm⟩ | ⟨ks, e, b, hm⟩ <;> rcases List.mem_cons.1 hm with rfl | hm'
  ·simp only [pX, Bool.and_eq_true, Bool.false_or] at h
   exact Nat.le_of_ble_eq_true h.1
  ·exact ae9 tl (.inl ⟨o, hm'⟩)
  ·simp only [pX, Bool.and_eq_true, Bool.false_or] at h
   exact Nat.le_of_ble_eq_true h.1
  ·exact ae9 tl (.inr ⟨ks, e, b, hm'⟩)
theorem anF {base nb nl nr : Nat} {o n : Nat} : ∀ {c : List Cn}, pX base nb nl nr false c = true → Cn.it o n ∈ c → False
 | [], _, h => by simp at h
 | x :: c, h, hm => by
  have tl := ai8 h
  rcases List.mem_cons.1 hm with rfl | hm'
  ·simp [pX] at h
  ·exact anF tl hm'
theorem anZ {x : Cn} : ∀ {n k : Nat}, x ∈ aaw k n → ∃ j, k ≤ j ∧ j < k + n ∧ x = .bx (2000000000 + j) (2000000000 + j)
 | 0, k, h => by simp [aaw] at h
 | n + 1, k, h => by
  simp only [aaw, List.mem_cons] at h
  rcases h with rfl | h
  ·exact ⟨k, by omega, by omega, rfl⟩
  ·obtain ⟨j, h1, h2, h3⟩ := anZ h; exact ⟨j, by omega, by omega, h3⟩
theorem alD : ∀ (n k : Nat), nils (aaw k n) = []
 | 0, k => rfl
 | n + 1, k => by simp [aaw, nils, alD n (k + 1)]
theorem anl {o n : Nat} : ∀ {c : List Cn}, akF c = true → Cn.it o n ∈ c → False
 | [], _, h => by simp at h
 | x :: c, h, hm => by
  have tl : x ≠ Cn.it o n ∧ akF c = true := by cases x <;> simp [akF] at h ⊢ <;> exact h
  rcases List.mem_cons.1 hm with h' | hm'
  ·exact tl.1 h'.symm
  ·exact anl tl.2 hm'
theorem aiR {k o : Nat} : ∀ {c : List Cn}, ajM k c = some o → Cn.bx o k ∈ c
 | [], h => by simp [ajM] at h
 | x :: c, h => by
  cases x <;> simp only [ajM] at h <;> first | (exact List.mem_cons_of_mem _ (aiR h)) | skip
  rename_i o' n
  cases hb : Nat.beq n k with
  | true =>
   rw [hb] at h
   simp only [cond_true, Option.some.injEq] at h
   subst h
   rw [Nat.eq_of_beq_eq_true hb]; simp
  | false =>
   rw [hb] at h
   exact List.mem_cons_of_mem _ (aiR h)
section
variable {P : Program} {E : Env} {Γ : Fun} {X : Ctx} {G : Gh} {st : Sto} {a : Act} {w : World}
theorem ada {b : Nat} : ∀ {n o : Nat} {l : List AV}, aaQ st b o n = some l → l.length = n ∧ ∀ i x, l[i]? = some x → st (.bc b (o + i)) = .av x
 | 0, o, l, h => by
  cases (show some ([] : List AV) = some l by simpa [aaQ] using h)
  exact ⟨rfl, by simp⟩
 | n + 1, o, l, h => by
  simp only [aaQ] at h
  split at h
  ·rename_i x hx
   split at h
   ·rename_i l' hl'
    simp only [Option.some.injEq] at h
    subst h
    obtain ⟨h1, h2⟩ := ada hl'
    refine ⟨by simp [h1], fun i y hy => ?_⟩
    cases i with
    | zero => simp at hy; subst hy; exact hx
    | succ i => have := h2 i y (by simpa using hy); rw [← this]; congr 2; omega
   ·cases h
  ·cases h
theorem AVRs.amG (R : Rel X G st a w) {b o : Nat} {l : List AV} (h : ∀ i x, l[i]? = some x → st (.bc b (o + i)) = .av x) : l.all AV.one = true := by
 rw [List.all_eq_true]
 intro x hx
 obtain ⟨i, hi, rfl⟩ := List.getElem_of_mem hx
 obtain ⟨_, _, _, _, _, _, _, _, h5⟩ := R.bc _ _ _ (h i _ (List.getElem?_eq_getElem hi))
 exact h5
theorem xN (R : Rel X G st a w) {cs : List Cn} {base : Nat} : ∀ (bl : List (TypeId × List Sh)) (k : Nat) {bs : List Bx} {c : List Cn}, zA st cs base k bl = some (bs, c) →
  ∃ N, N.map (·.1) = nils c ∧ (∀ p ∈ N, ∃ b, p.2 = Value.slice b 0 0) ∧ (∀ x ∈ c, vB st x) ∧ bs.length = bl.length ∧ aaM bl bs = bs ∧
   ∀ (j : Nat) (b : Bx), bs[j]? = some b → ∃ (o : Nat) (arr : Array Value), Cn.bx o (base + k + j) ∈ cs ∧ st (.bx o) = .bx b.t b.cells.length ∧ w.heap[G.bb o]? = some (.cells arr b.t (0, 0)) ∧ arr.size = b.cells.length ∧ (b.cells.all AV.one = true) ∧
    (∀ l ∈ AV.refsL b.cells, ∃ x ∈ c, newLoc x = some l) ∧ ∀ G', Sat G G' c N → ∀ (i : Nat) (x : AV), b.cells[i]? = some x → ∃ u, arr[i]? = some u ∧ AVR G' w x u
 | [], k, bs, c, h => by
  simp only [zA, Option.some.injEq, Prod.mk.injEq] at h
  obtain ⟨rfl, rfl⟩ := h
  exact ⟨[], rfl, by simp, by simp, rfl, rfl, by simp⟩
 | (t, ss) :: bl, k, bs, c, h => by
  simp only [zA] at h
  split at h
  ·cases h
  ·rename_i o ho
   split at h
   ·rename_i t' n hst
    split at h
    ·rename_i htt
     have := Nat.eq_of_beq_eq_true htt; subst this
     split at h
     ·rename_i l hl
      split at h
      ·rename_i l' c1 hcv
       split at h
       ·rename_i bs' c2 hbs
        simp only [Option.some.injEq, Prod.mk.injEq] at h
        obtain ⟨rfl, rfl⟩ := h
        obtain ⟨hll, hlv⟩ := ada hl
        obtain ⟨vs, hvs, hcell⟩ := ab6 R (b := o) (off := 0) (cs := l) hlv
        obtain ⟨⟨N1, r1⟩, r2, r3, r4⟩ := uV R ss hcv hvs
        obtain ⟨N2, p1, p2, p3, p4, p5, p6⟩ := xN R bl (k + 1) hbs
        obtain ⟨arr, harr, hsz⟩ := R.bx o t n hst
        have hlen : l'.length = n := by
         have h1 := (r1.val (G.cut c1 N1 fun _ => 0))
         have hlc : ∀ (ss : List Sh) (l l' : List AV) (c : List Cn), xK st ss l = some (l', c) → l'.length = l.length := by
          intro ss
          induction ss with
          | nil => intro l l' c h; cases l <;> simp [xK] at h; simp [h.1]
          | cons s ss ih =>
           intro l l' c h
           cases l with
           | nil => simp [xK] at h
           | cons y l =>
            simp only [xK] at h
            split at h
            ·split at h
             ·rename_i hh
              simp only [Option.some.injEq, Prod.mk.injEq] at h
              rw [← h.1]; simp [ih _ _ _ hh]
             ·cases h
            ·cases h
         rw [hlc _ _ _ _ hcv, hll]
        refine ⟨N1 ++ N2, by simp [w9, r1.names, p1], fun p hp => ?_, fun x hx => ?_, by simp [p4], by simp [aaM, r3, p5], fun j b hj => ?_⟩
        ·rcases List.mem_append.1 hp with hp | hp
         ·exact r1.empty p hp
         ·exact p2 p hp
        ·rcases List.mem_append.1 hx with hx | hx
         ·exact r2 x hx
         ·exact p3 x hx
        ·cases j with
         | zero =>
          obtain rfl : ⟨t, l'⟩ = b := by simpa using hj
          refine ⟨o, arr, aiR ho, by simpa [hlen] using hst, harr, by simp [hsz, hlen], r4 (AVRs.amG R hlv), fun l0 hl0 => ?_, fun G' hs i x hx => ?_⟩
          ·obtain ⟨x, hx, hn⟩ := r1.refs l0 hl0; exact ⟨x, by simp [hx], hn⟩
          ·obtain ⟨u, hu, hau⟩ := (r1.val G' hs.left).get hx
           refine ⟨u, ?_, hau⟩
           have := hcell i u hu
           rw [cell_of_row w _ _ arr t (0, 0) harr] at this
           simpa using this
         | succ j =>
          obtain ⟨o', arr', q1, q2, q3, q4, q5, q6, q7⟩ := p6 j b (by simpa using hj)
          refine ⟨o', arr', by rw [show base + k + (j + 1) = base + (k + 1) + j by omega]; exact q1, q2, q3, q4, q5, fun l0 hl0 => ?_, fun G' hs => q7 G' hs.right⟩
          obtain ⟨x, hx, hn⟩ := q6 l0 hl0; exact ⟨x, by simp [hx], hn⟩
       ·cases h
      ·cases h
     ·cases h
    ·cases h
   ·cases h
theorem apK (R : Rel X G st a w) : ∀ {tl : List (Nat × Sh)} {as : List AV}, aiT st tl = some as → AVRs G w as (tl.map fun p => a.tmps.getD p.1 undef) ∧ ∀ p ∈ tl, p.1 < X.nt
 | [], as, h => by
  cases (show some ([] : List AV) = some as by simpa [aiT] using h)
  exact ⟨.nil, by simp⟩
 | (t, sh) :: tl, as, h => by
  simp only [aiT] at h
  split at h
  ·rename_i x hx
   split at h
   ·rename_i l hl
    simp only [Option.some.injEq] at h
    subst h
    obtain ⟨h1, h2⟩ := R.tm t x hx
    obtain ⟨h3, h4⟩ := apK R hl
    refine ⟨.cons _ _ _ _ h2 h3, fun p hp => ?_⟩
    rcases List.mem_cons.1 hp with rfl | hp
    ·exact h1
    ·exact h4 p hp
   ·cases h
  ·cases h
theorem akp : anq P E := by
 intro h st st' hcan X G a w hF R
 unfold canon at hcan
 split at hcan
 ·cases hcan
 rename_i as has
 split at hcan
 ·cases hcan
 rename_i as' c1 hcv
 split at hcan
 ·cases hcan
 rename_i bs c2 hbx
 split at hcan
 ·cases hcan
 rename_i ls c3 hlx
 split at hcan
 ·rename_i hcond
  generalize hc0 : aaw 0 h.lent.length = c0 at *
  have hself : ∀ x ∈ c0, ∃ j, x = .bx (2000000000 + j) (2000000000 + j) := fun x hx => by
   rw [← hc0] at hx; obtain ⟨j, _, _, e⟩ := anZ hx; exact ⟨j, e⟩
  have hn0 : nils c0 = [] := by rw [← hc0]; exact alD _ _
  simp only [Bool.and_eq_true] at hcond
  obtain ⟨⟨⟨⟨hno, hno3⟩, hok⟩, hin⟩, hsm⟩ := hcond
  have hsm' := Nat.le_of_ble_eq_true hsm
  obtain ⟨hA, hlt⟩ := apK R has
  obtain ⟨⟨N1, r1⟩, r2, r3, r4⟩ := uV R _ hcv hA
  obtain ⟨N2, p1, p2, p3, p4, p5, p6⟩ := xN R h.boxes 0 hbx
  obtain ⟨N3, t1, t2, t3, t4, t5, t6⟩ := xN R h.lent 0 hlx
  simp only [Option.some.injEq] at hcan
  have hold : ∀ x ∈ c0 ++ c1 ++ c2 ++ c3, vB st x := fun x hx => by
   simp only [List.mem_append] at hx
   rcases hx with ((hx | hx) | hx) | hx
   ·obtain ⟨j, rfl⟩ := hself x hx; trivial
   ·exact r2 x hx
   ·exact p3 x hx
   ·exact t3 x hx
  have hN : (((([] : List (Nat × Value)) ++ N1) ++ N2) ++ N3).map (·.1) = nils (c0 ++ c1 ++ c2 ++ c3) := by simp [w9, r1.names, p1, t1, hn0]
  have sat := Gh.ajX G (fun n => nK (st' (.rw n))) hok hN
  generalize hBF : (fun (n : Nat) (b : Bx) => (∃ j : Nat, bs[j]? = some b ∧ n = 1000000000 + j) ∨ (∃ j : Nat, ls[j]? = some b ∧ n = 2000000000 + j)) = BF
  have bfi : ∀ n b, BF n b ↔ ((∃ j : Nat, bs[j]? = some b ∧ n = 1000000000 + j) ∨ (∃ j : Nat, ls[j]? = some b ∧ n = 2000000000 + j)) := by intro n b; subst hBF; exact Iff.rfl
  have bflt : ∀ {j : Nat} {b : Bx}, bs[j]? = some b → j < 1000000 + 1 := fun {j b} hj => by
   have := (List.getElem?_eq_some_iff.1 hj).1; omega
  have bfu : ∀ n b b', BF n b → BF n b' → b = b' := by
   intro n b b' h1 h2
   rcases (bfi n b).1 h1 with ⟨j, hj, rfl⟩ | ⟨j, hj, rfl⟩ <;> rcases (bfi _ b').1 h2 with ⟨j', hj', e⟩ | ⟨j', hj', e⟩
   ·obtain rfl : j = j' := by omega
    rw [hj] at hj'; exact Option.some.inj hj'
   ·have := bflt hj; omega
   ·have := bflt hj'; omega
   ·obtain rfl : j = j' := by omega
    rw [hj] at hj'; exact Option.some.inj hj'
  have bff : ∀ n b, BF n b → ∃ o arr, Cn.bx o n ∈ c0 ++ c1 ++ c2 ++ c3 ∧ st (.bx o) = .bx b.t b.cells.length ∧ w.heap[G.bb o]? = some (.cells arr b.t (0, 0)) ∧ (b.cells.all AV.one = true) ∧
    (∀ l ∈ AV.refsL b.cells, ∃ x ∈ c0 ++ c1 ++ c2 ++ c3, newLoc x = some l) ∧ (2000000000 ≤ n → o = n) ∧
    ∀ (i : Nat) (x : AV), b.cells[i]? = some x → ∃ u, arr[i]? = some u ∧ AVR (G.cut (c0 ++ c1 ++ c2 ++ c3) (((([] : List (Nat × Value)) ++ N1) ++ N2) ++ N3) fun n => nK (st' (.rw n))) w x u := by
   intro n b hb
   rcases (bfi n b).1 hb with ⟨j, hj, rfl⟩ | ⟨j, hj, rfl⟩
   ·obtain ⟨o, arr, s1, s2, s3, s4, s5, s6, s7⟩ := p6 j b hj
    rw [Nat.add_zero] at s1
    exact ⟨o, arr, List.mem_append_left _ (List.mem_append_left _ s1), s2, s3, s5, fun l hl => by obtain ⟨x, hx, e⟩ := s6 l hl; exact ⟨x, by simp [hx], e⟩, fun hge => by have := bflt hj; omega, s7 _ sat.left.right⟩
   ·obtain ⟨o, arr, s1, s2, s3, s4, s5, s6, s7⟩ := t6 j b hj
    rw [Nat.add_zero] at s1
    refine ⟨o, arr, by simp [s1], s2, s3, s5, fun l hl => by obtain ⟨x, hx, e⟩ := s6 l hl; exact ⟨x, by simp [hx], e⟩, fun _ => ?_, s7 _ sat.right⟩
    obtain ⟨j', e⟩ := hself _ s1
    injection e with e1 e2; omega
  have look : ∀ l, (st' l = .none) ∨ (∃ o n, Cn.rw o n ∈ c0 ++ c1 ++ c2 ++ c3 ∧ l = .rw n ∧ st' l = st (.rw o)) ∨ (∃ n ks e b, Cn.nilr n ks e b ∈ c0 ++ c1 ++ c2 ++ c3 ∧ l = .rw n ∧ st' l = .row ks e b [] false) ∨
    (∃ o n, Cn.it o n ∈ c1 ∧ l = .it n ∧ st' l = st (.it o)) ∨ (∃ (n : Nat) (b : Bx), BF n b ∧ l = .bx n ∧ st' l = .bx b.t b.cells.length) ∨
    (∃ (n : Nat) (b : Bx) (i : Nat) (x : AV), BF n b ∧ b.cells[i]? = some x ∧ l = .bc n i ∧ st' l = .av x) ∨ (∃ (j i : Nat) (sh : Sh) (x : AV), h.tmps[j]? = some (i, sh) ∧ as'[j]? = some x ∧ l = .tm i ∧ st' l = .av x) := by
   intro l
   rw [← hcan]
   rcases adk st (c0 ++ c1 ++ c2 ++ c3) (wG st c1 (cX 2000000000 ls (cX 1000000000 bs (qV h.tmps as' Sto.nil)))) l with h1 | h1 | h1
   ·rcases afL st c1 (cX 2000000000 ls (cX 1000000000 bs (qV h.tmps as' Sto.nil))) l with h2 | h2
    ·rcases sG ls 2000000000 (cX 1000000000 bs (qV h.tmps as' Sto.nil)) l with h5 | h5 | h5
     ·rcases sG bs 1000000000 (qV h.tmps as' Sto.nil) l with h3 | h3 | h3
      ·rcases amy h.tmps as' Sto.nil l with h4 | ⟨j, i, sh, x, q1, q2, q3, q4⟩
       ·exact .inl (by rw [h1, h2, h5, h3, h4]; rfl)
       ·exact .inr (.inr (.inr (.inr (.inr (.inr ⟨j, i, sh, x, q1, q2, q3, by rw [h1, h2, h5, h3, q4]⟩)))))
      ·obtain ⟨j, b, q1, q2, q3⟩ := h3
       exact .inr (.inr (.inr (.inr (.inl ⟨_, b, (bfi _ _).2 (.inl ⟨j, q1, rfl⟩), q2, by rw [h1, h2, h5, q3]⟩))))
      ·obtain ⟨j, b, i, x, q1, q2, q3, q4⟩ := h3
       exact .inr (.inr (.inr (.inr (.inr (.inl ⟨_, b, i, x, (bfi _ _).2 (.inl ⟨j, q1, rfl⟩), q2, q3, by rw [h1, h2, h5, q4]⟩)))))
     ·obtain ⟨j, b, q1, q2, q3⟩ := h5
      exact .inr (.inr (.inr (.inr (.inl ⟨_, b, (bfi _ _).2 (.inr ⟨j, q1, rfl⟩), q2, by rw [h1, h2, q3]⟩))))
     ·obtain ⟨j, b, i, x, q1, q2, q3, q4⟩ := h5
      exact .inr (.inr (.inr (.inr (.inr (.inl ⟨_, b, i, x, (bfi _ _).2 (.inr ⟨j, q1, rfl⟩), q2, q3, by rw [h1, h2, q4]⟩)))))
    ·obtain ⟨o, n, q1, q2, q3⟩ := h2
     exact .inr (.inr (.inr (.inl ⟨o, n, q1, q2, by rw [h1, q3]⟩)))
   ·exact .inr (.inl h1)
   ·exact .inr (.inr (.inl h1))
  have there : ∀ l x, x ∈ c0 ++ c1 ++ c2 ++ c3 → newLoc x = some l → st' l ≠ .none := by
   intro l x hx hn
   rw [← hcan]
   refine aiy st _ _ hold ?_
   cases x with
   | bx o n =>
    simp only [newLoc, Option.some.injEq] at hn
    subst hn
    refine .inl (ac9 st _ _ r2 (.inl ?_))
    rcases aiq hin hx with ⟨h1, h2⟩ | ⟨h1, h2⟩
    ·have hj : n - 1000000000 < bs.length := by omega
     have := xE bs 1000000000 (qV h.tmps as' Sto.nil) (List.getElem?_eq_getElem hj)
     rw [show 1000000000 + (n - 1000000000) = n by omega] at this
     rcases sG ls 2000000000 (cX 1000000000 bs (qV h.tmps as' Sto.nil)) (.bx n) with h5 | ⟨_, _, _, _, h5⟩ | ⟨_, _, _, _, _, _, q, _⟩
     ·rw [h5, this]; simp
     ·rw [h5]; simp
     ·cases q
    ·have hj : n - 2000000000 < ls.length := by omega
     have := xE ls 2000000000 (cX 1000000000 bs (qV h.tmps as' Sto.nil)) (List.getElem?_eq_getElem hj)
     rw [show 2000000000 + (n - 2000000000) = n by omega] at this
     rw [this]; simp
   | rw o n =>
    simp only [newLoc, Option.some.injEq] at hn
    exact .inr (.inl ⟨o, n, hx, hn.symm⟩)
   | nilr n ks e b =>
    simp only [newLoc, Option.some.injEq] at hn
    exact .inr (.inr ⟨n, ks, e, b, hx, hn.symm⟩)
   | it o n =>
    simp only [newLoc, Option.some.injEq] at hn
    refine .inl (ac9 st _ _ r2 (.inr ⟨o, n, ?_, hn.symm⟩))
    simp only [List.mem_append] at hx
    rcases hx with ((hx | hx) | hx) | hx
    ·obtain ⟨j, e⟩ := hself _ hx; cases e
    ·exact hx
    ·exact (anl hno hx).elim
    ·exact (anl hno3 hx).elim
   | fz o => simp [newLoc] at hn
  refine ⟨_, am6 (m := X.nt) (lb' := X.lb) (S := st') (a' := a) R hok hN (fun p hp => ?_) hold R.defers R.sz ?_ ?_ ?_ ?_ ?_ ?_ ?_⟩
  ·simp only [List.mem_append] at hp
   rcases hp with ((hp | hp) | hp) | hp
   ·cases hp
   ·exact r1.empty p hp
   ·exact p2 p hp
   ·exact t2 p hp
  ·intro i v hv
   rcases look (.tm i) with q | ⟨_, _, _, q, _⟩ | ⟨_, _, _, _, _, q, _⟩ | ⟨_, _, _, q, _⟩ | ⟨_, _, _, q, _⟩ | ⟨_, _, _, _, _, _, q, _⟩ | ⟨j, i', sh, x, q1, q2, q3, q4⟩
   ·rw [q] at hv; cases hv
   ·cases q
   ·cases q
   ·cases q
   ·cases q
   ·cases q
   ·injection q3 with q3; subst q3
    rw [q4] at hv; injection hv with hv; subst hv
    obtain ⟨u, hu, hau⟩ := (r1.val _ sat.left.left.right).get q2
    rw [List.getElem?_map, q1] at hu
    obtain rfl := Option.some.inj hu
    exact ⟨hlt (i, sh) (List.mem_of_getElem? q1), hau⟩
  ·intro n t k hv
   rcases look (.bx n) with q | ⟨_, _, _, q, _⟩ | ⟨_, _, _, _, _, q, _⟩ | ⟨_, _, _, q, _⟩ | ⟨n', b, q1, q2, q3⟩ | ⟨_, _, _, _, _, _, q, _⟩ | ⟨_, _, _, _, _, _, q, _⟩
   ·rw [q] at hv; cases hv
   ·cases q
   ·cases q
   ·cases q
   ·injection q2 with q2; subst q2
    rw [q3] at hv; injection hv with e1 e2; subst e1; subst e2
    obtain ⟨o, arr, s1, s2, _⟩ := bff _ b q1
    exact ⟨o, s1, s2⟩
   ·cases q
   ·cases q
  ·intro n i v hv
   rcases look (.bc n i) with q | ⟨_, _, _, q, _⟩ | ⟨_, _, _, _, _, q, _⟩ | ⟨_, _, _, q, _⟩ | ⟨_, _, _, q, _⟩ | ⟨n', b, i', x, q1, q2, q3, q4⟩ | ⟨_, _, _, _, _, _, q, _⟩
   ·rw [q] at hv; cases hv
   ·cases q
   ·cases q
   ·cases q
   ·cases q
   ·injection q3 with e1 e2; subst e1; subst e2
    rw [q4] at hv; injection hv with hv; subst hv
    obtain ⟨o, arr, s1, s2, s3, s5, s6, _, s7⟩ := bff _ b q1
    obtain ⟨u, hu, hau⟩ := s7 i x q2
    refine ⟨o, b.t, b.cells.length, arr, u, s1, ?_, s3, hu, hau, (List.all_eq_true.1 s5) _ (List.mem_of_getElem? q2)⟩
    rcases look (.bx n) with q | ⟨_, _, _, q, _⟩ | ⟨_, _, _, _, _, q, _⟩ | ⟨_, _, _, q, _⟩ | ⟨n', b', q1', q2', q3'⟩ | ⟨_, _, _, _, _, _, q, _⟩ | ⟨_, _, _, _, _, _, q, _⟩
    ·exact absurd q (there (.bx n) (.bx o n) s1 rfl)
    ·cases q
    ·cases q
    ·cases q
    ·injection q2' with q2'; subst q2'
     rw [bfu _ _ _ q1 q1']; exact q3'
    ·cases q
    ·cases q
   ·cases q
  ·intro n ks e b xs fz hv
   rcases look (.rw n) with q | ⟨o, n', q1, q2, q3⟩ | ⟨n', ks', e', b', q1, q2, q3⟩ | ⟨_, _, _, q, _⟩ | ⟨_, _, _, q, _⟩ | ⟨_, _, _, _, _, _, q, _⟩ | ⟨_, _, _, _, _, _, q, _⟩
   ·rw [q] at hv; cases hv
   ·injection q2 with q2; subst q2
    obtain ⟨ks', e', b', xs', hrow⟩ := hold _ q1
    rw [q3, hrow] at hv
    injection hv with e1 e2 e3 e4 e5
    subst e1; subst e2; subst e3; subst e4
    exact ⟨e5.symm, .inl ⟨o, q1, hrow⟩⟩
   ·injection q2 with q2; subst q2
    rw [q3] at hv
    injection hv with e1 e2 e3 e4 e5
    subst e1; subst e2; subst e3
    exact ⟨e5.symm, .inr ⟨q1, e4.symm⟩⟩
   ·cases q
   ·cases q
   ·cases q
   ·cases q
  ·intro n s p hv
   rcases look (.it n) with q | ⟨_, _, _, q, _⟩ | ⟨_, _, _, _, _, q, _⟩ | ⟨o, n', q1, q2, q3⟩ | ⟨_, _, _, q, _⟩ | ⟨_, _, _, _, _, _, q, _⟩ | ⟨_, _, _, _, _, _, q, _⟩
   ·rw [q] at hv; cases hv
   ·cases q
   ·cases q
   ·injection q2 with q2; subst q2
    exact ⟨o, by simp [q1], by rw [← q3]; exact hv⟩
   ·cases q
   ·cases q
   ·cases q
  ·intro k t n hv
   rcases look (.bx (2000000000 + k)) with q | ⟨_, _, _, q, _⟩ | ⟨_, _, _, _, _, q, _⟩ | ⟨_, _, _, q, _⟩ | ⟨n', b, q1, q2, q3⟩ | ⟨_, _, _, _, _, _, q, _⟩ | ⟨_, _, _, _, _, _, q, _⟩
   ·rw [q] at hv; cases hv
   ·cases q
   ·cases q
   ·cases q
   ·injection q2 with q2; subst q2
    obtain ⟨o, arr, s1, s2, s3, s5, s6, s8, s7⟩ := bff _ b q1
    have := s8 (by omega)
    subst this
    rw [sat.bx _ _ s1]
    exact R.lent k _ _ s2
   ·cases q
   ·cases q
  ·intro l v hv l' hl'
   rcases look l with q | ⟨o, n', q1, q2, q3⟩ | ⟨n', ks', e', b', q1, q2, q3⟩ | ⟨o, n', q1, q2, q3⟩ | ⟨j, b, q1, q2, q3⟩ | ⟨n, b, i', x, q1, q2, q3, q4⟩ | ⟨j, i', sh, x, q1, q2, q3, q4⟩
   ·rw [q] at hv; cases hv
   ·obtain ⟨ks', e', b', xs', hrow⟩ := hold _ q1
    rw [q3, hrow] at hv; cases hv
   ·rw [q3] at hv; cases hv
   ·obtain ⟨s, p, hit⟩ := r2 _ q1
    rw [q3, hit] at hv; cases hv
   ·rw [q3] at hv; cases hv
   ·rw [q4] at hv; injection hv with hv; subst hv
    obtain ⟨o, arr, s1, s2, s3, s5, s6, _, s7⟩ := bff _ b q1
    obtain ⟨y, hy, hn⟩ := s6 l' (rD q2 hl')
    exact there l' y hy hn
   ·rw [q4] at hv; injection hv with hv; subst hv
    obtain ⟨y, hy, hn⟩ := r1.refs l' (rD q2 hl')
    exact there l' y (by simp [hy]) hn
 ·cases hcan
end
end PX
set_option linter.unusedVariables false
set_option linter.unusedSimpArgs false
namespace PX
open Go
def outSto (bs : List Bx) (rs : List Rw) : Sto := o6 0 rs (cX 0 bs Sto.nil)
def act0 : Act := ⟨#[], []⟩
def entCtx (w : World) (G : Gh) (bs : List Bx) (rs : List Rw) : Ctx :=
 ⟨w, w.heap.size, fun k => ∃ l, blk G (inSto bs rs) l = some k, 0, G.F, fun k => G.bb (2000000000 + k), []⟩
structure Ent (w : World) (G : Gh) (args : List AV) (bs : List Bx) (rs : List Rw) (vs : List Value) : Prop where
 rel : Rel (entCtx w G bs rs) G (inSto bs rs) act0 w
 avs : AVRs G w args vs
 refs : ∀ l ∈ AV.refsL args, inSto bs rs l ≠ .none
def pack : List Value → Value
 | [u] => u
 | l => .tuple ⟨l⟩
structure aCh (X : Ctx) (w' : World) (res : List AV) (obs : List Bx) (ors : List Rw) (nb : Nat) (us : List Value) (G' : Gh) : Prop where
 rel : Rel { X with nt := 0, lb := fun k => G'.bb (2000000000 + k), df := [] } G' (outSto obs ors) act0 w'
 rvs : AVRs G' w' res us
 refs : ∀ l ∈ AV.refsL res, outSto obs ors l ≠ .none
 boxes : ∀ k, k < nb → G'.bb k = X.lb k
def auW (E : Env) (f : FuncId) (nb : Nat) : Out → Prop
 | .ret res obs ors => ∃ ss tbs, E.tm f = some (ss, tbs) ∧ Sh.coL ss res = res ∧ aaM tbs obs = obs ∧ aem (Sh.acI ss) ors = ors ∧ nb ≤ obs.length ∧ obs.length ≤ 1000000 ∧ (∀ b ∈ obs, AV.refsL b.cells = [])
 | .pan v => ∃ sh, E.pv f = some sh ∧ Sh.co sh v = v ∧ v.refs = []
def aeB (E : Env) (f : FuncId) (X : Ctx) (nb : Nat) (out : Out) : Ending → World → Prop
 | .returned v, w' => auW E f nb out ∧ ∃ res obs ors us G', out = .ret res obs ors ∧ v = pack us ∧ aCh X w' res obs ors nb us G'
 | .panicked chain, w' => auW E f nb out ∧ ∃ v, out = .pan v ∧ aqb X v chain w'
 | .outgrown, _ => False
def ad0 (P : Program) (E : Env) : Prop :=
 ∀ f k, E.lib f = some k → ∀ args bs rs out, acW k args bs rs = some out → ∀ w G vs, Ent w G args bs rs vs → Calls P f ⟨vs⟩ w (aeB E f (entCtx w G bs rs) bs.length out)
theorem ad0.none {P : Program} {E : Env} (h : ∀ f, E.lib f = .none) : ad0 P E := fun f k hk => by rw [h f] at hk; cases hk
def ad2 (P : Program) (E : Env) (Γ : Fun) : Prop :=
 ∀ f args bs rs out, Γ f args bs rs = some out → ∀ w G vs, Ent w G args bs rs vs → Calls P f ⟨vs⟩ w (aeB E f (entCtx w G bs rs) bs.length out)
theorem avZ : ∀ {sh : Sh} {v : AV}, abm sh v = true → Sh.co sh v = v ∧ v.refs = [] := by
 intro sh
 induction sh using Sh.rec (motive_2 := fun _ => True) with
 | ifc t s ih =>
  intro v h
  cases v <;> (try simp only [abm] at h) <;> first | (cases h; done) | skip
  simp only [Bool.and_eq_true] at h
  have := Nat.eq_of_beq_eq_true h.1; subst this
  obtain ⟨h1, h2⟩ := ih h.2
  exact ⟨by simp [Sh.co, h1], by simp [AV.refs, h2]⟩
 | int k =>
  intro v h
  rcases v with x | _ | _ | _ | _ | _ | _ | _ | _ | _ | _ | _ | _ | _ | _ | _ | _ <;> (try simp only [abm] at h) <;> first | (cases h; done) | skip
  cases x <;> (try simp only [abm] at h) <;> first | (cases h; done) | skip
  have := aeu h; subst this
  exact ⟨rfl, rfl⟩
 | bool =>
  intro v h
  rcases v with x | _ | _ | _ | _ | _ | _ | _ | _ | _ | _ | _ | _ | _ | _ | _ | _ <;> (try simp only [abm] at h) <;> first | (cases h; done) | skip
  cases x <;> (try simp only [abm] at h) <;> first | (cases h; done) | exact ⟨rfl, rfl⟩
 | str =>
  intro v h
  rcases v with x | _ | _ | _ | _ | _ | _ | _ | _ | _ | _ | _ | _ | _ | _ | _ | _ <;> (try simp only [abm] at h) <;> first | (cases h; done) | skip
  cases x <;> (try simp only [abm] at h) <;> first | (cases h; done) | exact ⟨rfl, rfl⟩
 | nil => trivial
 | cons _ _ _ _ => trivial
 | _ => intro v h; simp [abm] at h
theorem tZ : ∀ (rs : List Rw) (B : Nat) (s : Sto) (l : Loc), o6 B rs s l = s l ∨ ∃ (j : Nat) (r : Rw), rs[j]? = some r ∧ l = .rw (B + j) ∧ o6 B rs s l = .row r.ks r.e r.bytes r.xs false
 | [], B, s, l => .inl rfl
 | x :: rs, B, s, l => by
  simp only [o6]
  rcases tZ rs (B + 1) (s.upd (.rw B) (.row x.ks x.e x.bytes x.xs false)) l with h | ⟨j, r, h1, h2, h3⟩
  ·by_cases e : Loc.rw B = l
   ·subst e; rw [h]; exact .inr ⟨0, x, by simp, by simp, by simp⟩
   ·rw [h, bH _ _ e]; exact .inl rfl
  ·exact .inr ⟨j + 1, r, by simpa using h1, by rw [h2]; congr 1; omega, h3⟩
theorem anM {n : Nat} : ∀ (rs : List Rw) (B : Nat) (s : Sto), n < B → o6 B rs s (.rw n) = s (.rw n)
 | [], B, s, h => rfl
 | y :: rs, B, s, h => by
  simp only [o6]
  rw [anM rs (B + 1) _ (by omega), bH _ _ (by simp; omega)]
theorem afj : ∀ (rs : List Rw) (B : Nat) (s : Sto) {j : Nat} {r : Rw}, rs[j]? = some r → o6 B rs s (.rw (B + j)) = .row r.ks r.e r.bytes r.xs false
 | [], B, s, j, r, h => by simp at h
 | y :: rs, B, s, 0, r, h => by
  obtain rfl : y = r := by simpa using h
  simp only [o6, Nat.add_zero]
  rw [anM _ _ _ (by omega)]
  simp
 | y :: rs, B, s, j + 1, r, h => by
  simp only [o6]
  rw [show B + (j + 1) = B + 1 + j by omega]
  exact afj rs (B + 1) _ (by simpa using h)
theorem anW (st : Sto) (k : Nat) : ∀ (c : List Cn), v8 st k c = .none ∨ (∃ o, Cn.rw o k ∈ c ∧ v8 st k c = st (.rw o)) ∨ (∃ ks e b, Cn.nilr k ks e b ∈ c ∧ v8 st k c = .row ks e b [] false)
 | [] => .inl rfl
 | x :: c => by
  have up : (v8 st k c = .none ∨ (∃ o, Cn.rw o k ∈ c ∧ v8 st k c = st (.rw o)) ∨ (∃ ks e b, Cn.nilr k ks e b ∈ c ∧ v8 st k c = .row ks e b [] false)) →
    (v8 st k c = .none ∨ (∃ o, Cn.rw o k ∈ x :: c ∧ v8 st k c = st (.rw o)) ∨ (∃ ks e b, Cn.nilr k ks e b ∈ x :: c ∧ v8 st k c = .row ks e b [] false)) := by
   intro h
   rcases h with h | ⟨o, h1, h2⟩ | ⟨ks, e, b, h1, h2⟩
   ·exact .inl h
   ·exact .inr (.inl ⟨o, by simp [h1], h2⟩)
   ·exact .inr (.inr ⟨ks, e, b, by simp [h1], h2⟩)
  have ih := anW st k c
  cases x <;> simp only [v8] <;> first | exact up ih | skip
  ·rename_i o n
   cases hb : Nat.beq n k with
   | true => have := Nat.eq_of_beq_eq_true hb; subst this; exact .inr (.inl ⟨o, by simp, rfl⟩)
   | false => exact up ih
  ·rename_i n ks e b
   cases hb : Nat.beq n k with
   | true => have := Nat.eq_of_beq_eq_true hb; subst this; exact .inr (.inr ⟨ks, e, b, by simp, rfl⟩)
   | false => exact up ih
theorem aku {st : Sto} {c : List Cn} : ∀ {l : List (List CK × TypeId × Nat)} {k : Nat} {rs : List Rw}, af6 st c k l = some rs →
  rs.length = l.length ∧ aem l rs = rs ∧ ∀ (j : Nat) (r : Rw), rs[j]? = some r → v8 st (k + j) c = .row r.ks r.e r.bytes r.xs false
 | [], k, rs, h => by
  simp only [af6, Option.some.injEq] at h
  subst h
  exact ⟨rfl, rfl, by simp⟩
 | (ks, e, b) :: l, k, rs, h => by
  simp only [af6] at h
  split at h
  ·rename_i ks' e' b' xs hrow
   split at h
   ·rename_i hc
    simp only [Bool.and_eq_true] at hc
    have h1 := gM hc.1.1
    have h2 := Nat.eq_of_beq_eq_true hc.1.2
    have h3 := Nat.eq_of_beq_eq_true hc.2
    subst h1; subst h2; subst h3
    split at h
    ·rename_i l' hl'
     simp only [Option.some.injEq] at h
     subst h
     obtain ⟨q1, q2, q3⟩ := aku hl'
     refine ⟨by simp [q1], by simp [aem, q2], fun j r hj => ?_⟩
     cases j with
     | zero => simp at hj; subst hj; exact hrow
     | succ j => have := q3 j r (by simpa using hj); rw [← this]; congr 1; omega
    ·cases h
   ·cases h
  ·cases h
theorem ajy {x : Cn} : ∀ {n k : Nat}, x ∈ borrowed k n → ∃ j, k ≤ j ∧ j < k + n ∧ x = .bx (2000000000 + j) j
 | 0, k, h => by simp [borrowed] at h
 | n + 1, k, h => by
  simp only [borrowed, List.mem_cons] at h
  rcases h with rfl | h
  ·exact ⟨k, by omega, by omega, rfl⟩
  ·obtain ⟨j, h1, h2, h3⟩ := ajy h; exact ⟨j, by omega, by omega, h3⟩
theorem ai6 : ∀ {n k j : Nat}, k ≤ j → j < k + n → Cn.bx (2000000000 + j) j ∈ borrowed k n
 | 0, k, j, h1, h2 => by omega
 | n + 1, k, j, h1, h2 => by
  simp only [borrowed, List.mem_cons]
  by_cases e : j = k
  ·subst e; exact .inl rfl
  ·exact .inr (ai6 (by omega) (by omega))
theorem ahP : ∀ (n k : Nat), nils (borrowed k n) = []
 | 0, k => rfl
 | n + 1, k => by simp [borrowed, nils, ahP n (k + 1)]
section
variable {P : Program} {E : Env} {Γ : Fun} {Λ : Code → Sto → (Ex → Sto → Res) → Res} {X : Ctx} {G : Gh} {st : Sto} {a : Act} {w : World}
def agf (a : Act) : ResultVar → Sem Value
 | .tmp t => pure (a.tmps.getD t undef)
 | .cell b t => do loadVar t (← asAddr (a.tmps.getD b undef))
theorem akD (EO : fS P E) (R : Rel X G st a w) : ∀ {l : List ResultVar} {as : List AV}, aee E st l = some as →
  ∃ us, AVRs G w as us ∧ (l.mapM (agf a)).run P w = .ok us w
 | [], as, h => by
  simp only [aee, Option.some.injEq] at h
  subst h
  exact ⟨[], .nil, by simp⟩
 | .tmp t :: l, as, h => by
  simp only [aee] at h
  split at h
  ·rename_i x hx
   split at h
   ·rename_i l' hl'
    simp only [Option.some.injEq] at h
    subst h
    obtain ⟨us, h1, h2⟩ := akD EO R hl'
    exact ⟨_ :: us, .cons _ _ _ _ (R.tm t x hx).2 h1, by simp only [List.mapM_cons, agf, Sem.run_bind, Sem.run_pure, Result.andThen_ok, h2]⟩
   ·cases h
  ·cases h
 | .cell b t :: l, as, h => by
  simp only [aee] at h
  split at h
  ·rename_i bb off hx
   split at h
   ·rename_i ti hti
    split at h
    ·rename_i cs hcs
     split at h
     ·rename_i l' hl'
      obtain ⟨us, h1, h2⟩ := akD EO R hl'
      have hT := EO.ty t ti hti
      obtain ⟨hl, hv⟩ := ada hcs
      obtain ⟨vs, hvs, hcell⟩ := ab6 R (b := bb) (off := off) (cs := cs) hv
      have hptr : a.tmps.getD b undef = .pointer (some ⟨G.bb bb, off, none⟩) := by
       have := (R.tm b _ hx).2
       generalize a.tmps.getD b undef = u at this
       cases this; rfl
      have hvl : vs.length = ti.ks.length := by rw [← hl]; exact hvs.length.symm
      have hia := aja (P := P) (w := w) hT
      have hsz := run_sizeOf (P := P) (w := w) hT
      split at h
      ·rename_i hag
       simp only [Option.some.injEq] at h
       subst h
       refine ⟨.agg ⟨vs⟩ :: us, .cons _ _ _ _ (.agg _ _ hvs) h1, ?_⟩
       have hload : (loadCells ⟨G.bb bb, off, none⟩ ti.ks.length).run P w = .ok ⟨vs⟩ w := by
        have := run_firstCells_some (P := P) w 1 ti.ks.length ⟨G.bb bb, off, none⟩ 0 0 vs (by omega) (fun j v hj => by rw [add_lit]; exact hcell j v hj)
        simpa [Builtin.firstCells] using this
       simp only [List.mapM_cons, agf, Sem.run_bind, Sem.run_pure, Result.andThen_ok, hptr, asAddr, loadVar, hia, hag, if_true, hsz, hload, h2]
      ·rename_i hag
       split at h
       ·rename_i x
        simp only [Option.some.injEq] at h
        subst h
        obtain ⟨u, rfl, hxu⟩ := hvs.one
        refine ⟨u :: us, .cons _ _ _ _ hxu h1, ?_⟩
        have hload : (load ⟨G.bb bb, off, none⟩).run P w = .ok u w := by
         have := hcell 0 u (by simp)
         rw [Nat.add_zero] at this
         simp [run_load, this]
        simp only [Bool.not_eq_true] at hag
        simp only [List.mapM_cons, agf, Sem.run_bind, Sem.run_pure, Result.andThen_ok, hptr, asAddr, loadVar, hia, hag, if_false, Bool.false_eq_true, hload, h2]
       ·cases h
     ·cases h
    ·cases h
   ·cases h
  ·cases h
theorem aqQ {fn : Func} {us : List Value} (h : (fn.results.toList.mapM (agf a)).run P w = .ok us w) : (results fn a.tmps).run P w = .ok (pack us) w := by
 have e : results fn a.tmps = (do let vs ← fn.results.mapM (agf a); pure (if h : vs.size = 1 then vs[0] else .tuple vs)) := by
  unfold results
  congr 1
 rw [e, Array.mapM_eq_mapM_toList]
 simp only [map_eq_pure_bind, Sem.run_bind, h, Result.andThen_ok, Sem.run_pure]
 congr 1
 rcases us with _ | ⟨u, _ | ⟨v, us⟩⟩ <;> simp [pack]
theorem ao3 (EO : fS P E) (R : Rel X G st a w) {f : FuncId} {fn : Func} {ss : List Sh} {tbs : List (TypeId × List Sh)} {nb : Nat} {out : Out} (htm : E.tm f = some (ss, tbs)) (h : finish E fn ss tbs nb st = some out) :
  auW E f nb out ∧ ∃ res obs ors us G', out = .ret res obs ors ∧ (results fn a.tmps).run P w = .ok (pack us) w ∧ aCh X w res obs ors nb us G' := by
 unfold finish at h
 split at h
 ·cases h
 rename_i as has
 split at h
 ·cases h
 rename_i as' c1 hcv
 split at h
 ·cases h
 rename_i bs c2 hbx
 split at h
 ·rename_i hcond
  split at h
  ·rename_i rs hrs
   generalize hc0 : borrowed 0 nb = c0 at *
   have hbor : ∀ x ∈ c0, ∃ j, x = .bx (2000000000 + j) j := fun x hx => by
    rw [← hc0] at hx; obtain ⟨j, _, _, e⟩ := ajy hx; exact ⟨j, e⟩
   have hn0 : nils c0 = [] := by rw [← hc0]; exact ahP _ _
   simp only [Bool.and_eq_true] at hcond
   obtain ⟨⟨⟨⟨⟨hno, hok⟩, hnb⟩, hsm⟩, hin⟩, hflat⟩ := hcond
   have hnb' := Nat.le_of_ble_eq_true hnb
   have hsm' := Nat.le_of_ble_eq_true hsm
   obtain ⟨us, hA, hres⟩ := akD EO R has
   obtain ⟨⟨N1, r1⟩, r2, r3, r4⟩ := uV R _ hcv hA
   obtain ⟨N2, p1, p2, p3, p4, p5, p6⟩ := xN R tbs 0 hbx
   obtain ⟨o1, o2, o3⟩ := aku hrs
   have hcells : ∀ b ∈ bs, AV.refsL b.cells = [] := fun b hb => by
    have := (List.all_eq_true.1 hflat) b hb
    simpa using this
   simp only [Option.some.injEq] at h
   subst h
   have hold : ∀ x ∈ c0 ++ c1 ++ c2, vB st x := fun x hx => by
    simp only [List.mem_append] at hx
    rcases hx with (hx | hx) | hx
    ·obtain ⟨j, rfl⟩ := hbor x hx; trivial
    ·exact r2 x hx
    ·exact p3 x hx
   have hN : ((([] : List (Nat × Value)) ++ N1) ++ N2).map (·.1) = nils (c0 ++ c1 ++ c2) := by simp [w9, r1.names, p1, hn0]
   have look : ∀ l, (outSto bs rs l = .none) ∨ (∃ (j : Nat) (r : Rw), rs[j]? = some r ∧ l = .rw j ∧ outSto bs rs l = .row r.ks r.e r.bytes r.xs false) ∨ (∃ (j : Nat) (b : Bx), bs[j]? = some b ∧ l = .bx j ∧ outSto bs rs l = .bx b.t b.cells.length) ∨
     (∃ (j : Nat) (b : Bx) (i : Nat) (x : AV), bs[j]? = some b ∧ b.cells[i]? = some x ∧ l = .bc j i ∧ outSto bs rs l = .av x) := by
    intro l
    unfold outSto
    rcases tZ rs 0 (cX 0 bs Sto.nil) l with h1 | ⟨j, r, h1, h2, h3⟩
    ·rcases sG bs 0 Sto.nil l with h2 | ⟨j, b, q1, q2, q3⟩ | ⟨j, b, i, x, q1, q2, q3, q4⟩
     ·exact .inl (by rw [h1, h2]; rfl)
     ·exact .inr (.inr (.inl ⟨j, b, q1, by rw [q2, Nat.zero_add], by rw [h1, q3]⟩))
     ·exact .inr (.inr (.inr ⟨j, b, i, x, q1, q2, by rw [q3, Nat.zero_add], by rw [h1, q4]⟩))
    ·exact .inr (.inl ⟨j, r, h1, by rw [h2, Nat.zero_add], h3⟩)
   generalize hS : outSto bs rs = S at *
   have sat := Gh.ajX G (fun n => nK (S (.rw n))) hok hN
   have thereB : ∀ j, j < bs.length → ∃ b, bs[j]? = some b ∧ S (.bx j) = .bx b.t b.cells.length := by
    intro j hj
    refine ⟨bs[j], List.getElem?_eq_getElem hj, ?_⟩
    subst hS
    unfold outSto
    have := xE bs 0 Sto.nil (List.getElem?_eq_getElem hj)
    rw [Nat.zero_add] at this
    rcases tZ rs 0 (cX 0 bs Sto.nil) (.bx j) with h1 | ⟨_, _, _, h2, _⟩
    ·rw [h1, this]
    ·cases h2
   have there : ∀ l x, x ∈ c0 ++ c1 ++ c2 → newLoc x = some l → S l ≠ .none := by
    intro l x hx hn
    have row : ∀ n, n < (Sh.acI ss).length → S (.rw n) ≠ .none := by
     intro n hlt
     have hj : n < rs.length := by omega
     subst hS
     unfold outSto
     have := afj rs 0 (cX 0 bs Sto.nil) (List.getElem?_eq_getElem hj)
     rw [Nat.zero_add] at this
     rw [this]; simp
    cases x with
    | bx o n =>
     simp only [newLoc, Option.some.injEq] at hn
     subst hn
     rcases aiq hin hx with ⟨h1, h2⟩ | ⟨h1, h2⟩
     ·obtain ⟨b, _, hb⟩ := thereB n (by omega)
      rw [hb]; simp
     ·omega
    | rw o n =>
     simp only [newLoc, Option.some.injEq] at hn
     subst hn
     exact row n (ae9 hin (.inl ⟨o, hx⟩))
    | nilr n ks e b =>
     simp only [newLoc, Option.some.injEq] at hn
     subst hn
     exact row n (ae9 hin (.inr ⟨ks, e, b, hx⟩))
    | it o n => exact (anF hin hx).elim
    | fz o => simp [newLoc] at hn
   have hrel := am6 (m := 0) (lb' := fun k => (G.cut (c0 ++ c1 ++ c2) ((([] : List (Nat × Value)) ++ N1) ++ N2) fun n => nK (S (.rw n))).bb (2000000000 + k)) (S := S) (a' := act0) R hok hN (fun p hp => by
    simp only [List.mem_append] at hp
    rcases hp with (hp | hp) | hp
    ·cases hp
    ·exact r1.empty p hp
    ·exact p2 p hp) hold rfl rfl ?_ ?_ ?_ ?_ ?_ (fun _ _ _ _ => rfl) ?_
   ·refine ⟨⟨ss, tbs, htm, r3, p5, o2, by omega, by omega, hcells⟩, as', bs, rs, us, G.cut (c0 ++ c1 ++ c2) ((([] : List (Nat × Value)) ++ N1) ++ N2) fun n => nK (S (.rw n)), rfl, aqQ hres, ?_⟩
    subst hS
    refine ⟨hrel, r1.val _ sat.left.right, fun l hl => ?_, fun k hk => ?_⟩
    ·obtain ⟨x, hx, hn⟩ := r1.refs l hl
     exact there l x (by simp [hx]) hn
    ·have hm : Cn.bx (2000000000 + k) k ∈ c0 ++ c1 ++ c2 := by
      rw [← hc0]
      exact List.mem_append_left _ (List.mem_append_left _ (ai6 (by omega) (by omega)))
     rw [sat.bx _ _ hm]
     obtain ⟨b, hb, _⟩ := thereB k (by omega)
     obtain ⟨o, arr, s1, s2, _⟩ := p6 k b hb
     simp only [Nat.zero_add] at s1
     have ho : o = 2000000000 + k := by
      rcases uD hok (List.mem_append_left _ s1) hm with e | e | e
      ·injection e
      ·simp only [Cn.meets, Nat.beq_refl, bne_eq_false_iff_eq] at e; exact Nat.eq_of_beq_eq_true e
      ·simp only [Cn.meets, Nat.beq_refl, bne_eq_false_iff_eq] at e; exact (Nat.eq_of_beq_eq_true e).symm
     subst ho
     exact R.lent k _ _ s2
   ·intro i v hv
    rcases look (.tm i) with q | ⟨_, _, _, q, _⟩ | ⟨_, _, _, q, _⟩ | ⟨_, _, _, _, _, _, q, _⟩
    ·rw [q] at hv; cases hv
    ·cases q
    ·cases q
    ·cases q
   ·intro n t k hv
    rcases look (.bx n) with q | ⟨_, _, _, q, _⟩ | ⟨j, b, q1, q2, q3⟩ | ⟨_, _, _, _, _, _, q, _⟩
    ·rw [q] at hv; cases hv
    ·cases q
    ·injection q2 with q2; subst q2
     rw [q3] at hv; injection hv with e1 e2; subst e1; subst e2
     obtain ⟨o, arr, s1, s2, _⟩ := p6 n b q1
     simp only [Nat.zero_add] at s1
     exact ⟨o, List.mem_append_left _ s1, s2⟩
    ·cases q
   ·intro n i v hv
    rcases look (.bc n i) with q | ⟨_, _, _, q, _⟩ | ⟨_, _, _, q, _⟩ | ⟨j, b, i', x, q1, q2, q3, q4⟩
    ·rw [q] at hv; cases hv
    ·cases q
    ·cases q
    ·injection q3 with e1 e2; subst e1; subst e2
     rw [q4] at hv; injection hv with hv; subst hv
     obtain ⟨o, arr, s1, s2, s3, s4, s5, s6, s7⟩ := p6 n b q1
     simp only [Nat.zero_add] at s1
     obtain ⟨u, hu, hau⟩ := s7 _ sat.right i x q2
     obtain ⟨b', hb', hSb⟩ := thereB n ((List.getElem?_eq_some_iff.1 q1).1)
     rw [q1] at hb'; obtain rfl := Option.some.inj hb'
     exact ⟨o, b.t, b.cells.length, arr, u, List.mem_append_left _ s1, hSb, s3, hu, hau, (List.all_eq_true.1 s5) _ (List.mem_of_getElem? q2)⟩
   ·intro n ks e b xs fz hv
    rcases look (.rw n) with q | ⟨j, r, q1, q2, q3⟩ | ⟨_, _, _, q, _⟩ | ⟨_, _, _, _, _, _, q, _⟩
    ·rw [q] at hv; cases hv
    ·injection q2 with q2; subst q2
     rw [q3] at hv
     injection hv with e1 e2 e3 e4 e5
     subst e1; subst e2; subst e3; subst e4; subst e5
     refine ⟨rfl, ?_⟩
     have hrow := o3 n r q1
     rw [Nat.zero_add] at hrow
     rcases anW st n (c0 ++ c1 ++ c2) with z | ⟨o, z1, z2⟩ | ⟨ks', e', b', z1, z2⟩
     ·rw [z] at hrow; cases hrow
     ·exact .inl ⟨o, z1, by rw [← z2]; exact hrow⟩
     ·rw [z2] at hrow
      injection hrow with y1 y2 y3 y4 y5
      subst y1; subst y2; subst y3
      exact .inr ⟨z1, y4.symm⟩
    ·cases q
    ·cases q
   ·intro n s p hv
    rcases look (.it n) with q | ⟨_, _, _, q, _⟩ | ⟨_, _, _, q, _⟩ | ⟨_, _, _, _, _, _, q, _⟩
    ·rw [q] at hv; cases hv
    ·cases q
    ·cases q
    ·cases q
   ·intro l v hv l' hl'
    rcases look l with q | ⟨j, r, q1, q2, q3⟩ | ⟨j, b, q1, q2, q3⟩ | ⟨j, b, i', x, q1, q2, q3, q4⟩
    ·rw [q] at hv; cases hv
    ·rw [q3] at hv; cases hv
    ·rw [q3] at hv; cases hv
    ·rw [q4] at hv; injection hv with hv; subst hv
     have := rD q2 hl'
     rw [hcells b (List.mem_of_getElem? q1)] at this
     cases this
  ·cases h
 ·cases h
theorem Base.nt {F : Nat → Prop} (b : Base X F w) (n : Nat) (l : Nat → Nat) : Base { X with nt := n, lb := l } F w := ⟨b.os, b.tape, b.output, b.size, b.keep, b.F0, b.Flt, b.Fnew⟩
theorem Rel.act (R : Rel X G st a w) (hno : ∀ i v, st (.tm i) ≠ .av v) {a' : Act} (hd : a'.defers = X.df) : Rel { X with nt := a'.tmps.size } G st a' w :=
 ⟨R.base.nt _ _, hd, rfl, fun i v h => absurd h (hno i v), R.bx, R.bc, R.rw, R.it, R.reg, R.inj, R.own, R.rv1, R.lent⟩
theorem Rel.tell (R : Rel X G st a w) {d : Nat} (hd : d < X.nt) {v : AV} (h : AVR G w v (a.tmps.getD d undef)) (hr : ∀ l ∈ v.refs, st l ≠ .none) : Rel X G (st.upd (.tm d) (.av v)) a w := by
 have := R.put hd h hr
 have e : a.put (some d) (a.tmps.getD d undef) = a := by
  have hsz : d < a.tmps.size := by rw [R.sz]; exact hd
  unfold Act.put
  simp only
  have : a.tmps.setIfInBounds d (a.tmps.getD d undef) = a.tmps := by
   apply Array.ext
   ·simp
   ·intro i h1 h2
    rw [Array.getElem_setIfInBounds]
    split
    ·rename_i e; subst e; simp [Array.getD_eq_getD_getElem?, Array.getElem?_eq_getElem hsz]
    ·rfl
  rw [this]
 rwa [e] at this
theorem anD : ∀ {args : List AV} {vs : List Value} {i : Nat} {st : Sto}, Rel X G st a w → AVRs G w args vs → (∀ (j : Nat) (u : Value), vs[j]? = some u → a.tmps.getD (i + j) undef = u) → i + args.length ≤ X.nt → (∀ l ∈ AV.refsL args, st l ≠ .none) →
  Rel X G (af7 i args st) a w
 | [], vs, i, st, R, hA, hv, hl, hr => R
 | x :: args, vs, i, st, R, hA, hv, hl, hr => by
  cases hA with
  | cons _ u _ us hx hs =>
   simp only [af7]
   simp only [List.length_cons] at hl
   have h0 := hv 0 u (by simp)
   rw [Nat.add_zero] at h0
   refine anD (R.tell (d := i) (by omega) (by rw [h0]; exact hx) (fun l hl => hr l (by simp [AV.refsL, hl]))) hs (fun j u hj => ?_) (by omega) (fun l hl => ?_)
   ·rw [show i + 1 + j = i + (j + 1) by omega]
    exact hv (j + 1) u (by simpa using hj)
   ·by_cases e : Loc.tm i = l
    ·subst e; simp
    ·rw [bH _ _ e]; exact hr l (by simp [AV.refsL, hl])
theorem avl (bs : List Bx) (rs : List Rw) (i : Nat) (v : AV) : inSto bs rs (.tm i) ≠ .av v := by
 unfold inSto
 rcases tZ rs 2000000000 (cX 2000000000 bs Sto.nil) (.tm i) with h1 | ⟨_, _, _, h, _⟩
 ·rcases sG bs 2000000000 Sto.nil (.tm i) with h2 | ⟨_, _, _, h, _⟩ | ⟨_, _, _, _, _, _, h, _⟩
  ·rw [h1, h2]; simp [Sto.nil]
  ·cases h
  ·cases h
 ·cases h
theorem asx (EO : fS P E) (hops : aiE P E Γ) (hL : aoN P E Λ) (hdraw : amf P E Γ) : ad2 P E (body E Γ Λ) := by
 intro f args bs rs out h w G vs hE
 unfold body at h
 split at h
 ·cases h
 rename_i fn hfn
 split at h
 ·cases h
 rename_i c hc
 split at h
 ·cases h
 rename_i ss tbs htm
 split at h
 ·cases h
 rename_i hcond
 simp only [Bool.not_eq_true', Bool.and_eq_true, Bool.not_eq_false, Bool.not_not] at hcond
 obtain ⟨hok, hle⟩ := hcond
 have hle' := Nat.le_of_ble_eq_true hle
 obtain ⟨hf, _, _⟩ := EO.fn f fn hfn
 refine calls_of_wp hf hc ?_
 have hvl : vs.length = args.length := hE.avs.length.symm
 have hsz : (({ tmps := ⟨vs⟩ ++ Array.replicate (fn.ntmps - (⟨vs⟩ : Array Value).size) undef, defers := [] } : Act)).tmps.size = fn.ntmps := by simp; omega
 generalize hact : (({ tmps := ⟨vs⟩ ++ Array.replicate (fn.ntmps - (⟨vs⟩ : Array Value).size) undef, defers := [] } : Act)) = act at *
 have R0 := hE.rel.act (avl bs rs) (a' := act) (by subst hact; rfl)
 have R1 := anD (i := 0) R0 hE.avs (fun j u hj => by
  subst hact
  have hlt := (List.getElem?_eq_some_iff.1 hj).1
  simp only [Nat.zero_add, Array.getD_eq_getD_getElem?]
  rw [Array.getElem?_append_left (by simpa using hlt)]
  simp [hj]) (by simp only [hsz, Nat.zero_add]; exact hle') hE.refs
 have hF : FOK { entCtx w G bs rs with nt := act.tmps.size } := fun k hk => ⟨hE.rel.base.Flt k hk, fun ⟨l, hl⟩ => (hE.rel.own l k hl).1 hk⟩
 refine wp_mono (alm EO hops hL hdraw akp hF c _ _ G act w (by simpa only [hsz] using hok) h R1) (fun e a' w' hq => ?_)
 have hfin : ∀ G' st', Rel { entCtx w G bs rs with nt := act.tmps.size } G' st' a' w' → finish E fn ss tbs bs.length st' = some out →
   a'.defers = [] ∧ ∃ v, (results fn a'.tmps).run P w' = .ok v w' ∧ aeB E f (entCtx w G bs rs) bs.length out (.returned v) w' := by
  intro G' st' R' hfs
  obtain ⟨hco, res, obs, ors, us, G2, ho, hres, hfr⟩ := ao3 EO R' htm hfs
  exact ⟨R'.defers, pack us, hres, hco, res, obs, ors, us, G2, ho, rfl, ⟨hfr.rel, hfr.rvs, hfr.refs, hfr.boxes⟩⟩
 cases e with
 | normal =>
  obtain ⟨G', st', R', h'⟩ := hq
  exact hfin G' st' R' h'
 | ret =>
  obtain ⟨G', st', R', h'⟩ := hq
  exact hfin G' st' R' h'
 | exit i =>
  obtain ⟨G', st', R', h'⟩ := hq
  simp [amU] at h'
 | panic chain =>
  obtain ⟨v, st', hd, ⟨G', u, hch, hv, hb⟩, h'⟩ := hq
  simp only [amU, atw] at h'
  split at h'
  ·cases h'
  ·rename_i sh hsh
   split at h'
   ·rename_i hps
    simp only [Option.some.injEq] at h'
    subst h'
    obtain ⟨h1, h2⟩ := avZ hps
    exact ⟨hd, ⟨sh, hsh, h1, h2⟩, v, rfl, G', u, hch, hv, ⟨hb.os, hb.tape, hb.output, hb.size, hb.keep, hb.F0, hb.Flt, hb.Fnew⟩⟩
   ·cases h'
 | goto l => exact hq.elim
 | outgrown => exact hq.elim
end
end PX
set_option linter.unusedVariables false
set_option linter.unusedSimpArgs false
namespace PX
open Go
def ath (G G2 : Gh) (fb fr : Nat → Nat) : Loc → Prop
 | .bx b => G2.bb (fb b) = G.bb b
 | .rw r => G2.rv (fr r) = G.rv r ∧ G2.rs (fr r) = G.rs r
 | .it i => G2.ib i = G.ib i
 | _ => True
section
variable {w : World}
mutual
theorem AVR.ren {G G2 : Gh} {fb fr : Nat → Nat} (hF : ∀ k, G.F k → G2.F k) : ∀ {x : AV} {u : Value}, AVR G w x u → (∀ l ∈ x.refs, ath G G2 fb fr l) → AVR G2 w (x.ren fb fr) u
 | _, _, .d h, _ => .d (h.mono hF (fun _ _ => rfl))
 | _, _, .dead v, _ => .dead v
 | _, _, .undf, _ => .undf
 | _, _, .anyb b, _ => .anyb b
 | _, _, .nil a, _ => .nil a
 | _, _, .nilp, _ => .nilp
 | _, _, .nilf, _ => .nilf
 | _, _, .nili, _ => .nili
 | _, _, .ptr b o, h => by
  have : G2.bb (fb b) = G.bb b := h (.bx b) (by simp [AV.refs])
  rw [← this]; exact .ptr (fb b) o
 | _, _, .ep ks e off ad us hF' hl hc, _ => .ep ks e off ad us (hF _ hF') hl fun i d k h1 h2 => by
   obtain ⟨h3, h4⟩ := hc i d k h1 h2
   exact ⟨h3, h4.mono hF (fun _ _ => rfl)⟩
 | _, _, .rp r i off g n c hv hi, h => by
  obtain ⟨h1, h2⟩ : G2.rv (fr r) = G.rv r ∧ G2.rs (fr r) = G.rs r := h (.rw r) (by simp [AV.refs])
  rw [← h2]; exact .rp (fr r) i off g n c (by rw [h1]; exact hv) hi
 | _, _, .row r, h => by
  obtain ⟨h1, h2⟩ : G2.rv (fr r) = G.rv r ∧ G2.rs (fr r) = G.rs r := h (.rw r) (by simp [AV.refs])
  rw [← h1]; exact .row (fr r)
 | _, _, .win r lo n b a n0 c0 c hv hn hc ha, h => by
  obtain ⟨h1, h2⟩ : G2.rv (fr r) = G.rv r ∧ G2.rs (fr r) = G.rs r := h (.rw r) (by simp [AV.refs])
  exact .win (fr r) lo n b a n0 c0 c (by rw [h1]; exact hv) hn hc (by rw [h2]; exact ha)
 | _, _, .agg cs vs h, hr => .agg _ vs (AVRs.ren hF h (by simpa [AV.refs] using hr))
 | _, _, .tup cs vs h, hr => .tup _ vs (AVRs.ren hF h (by simpa [AV.refs] using hr))
 | _, _, .fn f a c va vc ha hc, hr => .fn f _ _ va vc (AVRs.ren hF ha fun l hl => hr l (by simp [AV.refs, hl])) (AVRs.ren hF hc fun l hl => hr l (by simp [AV.refs, hl]))
 | _, _, .it i, h => by
  have : G2.ib i = G.ib i := h (.it i) (by simp [AV.refs])
  rw [← this]; exact .it i
 | _, _, .ifc t a v h, hr => .ifc t _ v (AVR.ren hF h (by simpa [AV.refs] using hr))
theorem AVRs.ren {G G2 : Gh} {fb fr : Nat → Nat} (hF : ∀ k, G.F k → G2.F k) : ∀ {xs : List AV} {us : List Value}, AVRs G w xs us → (∀ l ∈ AV.refsL xs, ath G G2 fb fr l) → AVRs G2 w (AV.aeA fb fr xs) us
 | _, _, .nil, _ => .nil
 | _, _, .cons a v as vs h hs, hr => .cons _ v _ vs (AVR.ren hF h fun l hl => hr l (by simp [AV.refsL, hl])) (AVRs.ren hF hs fun l hl => hr l (by simp [AV.refsL, hl]))
end
def Gh.sL (G : Gh) (F : Nat → Prop) : Gh := { G with F := F }
mutual
theorem aqz {G : Gh} (F : Nat → Prop) : ∀ (s : Sh) {x : AV} {u : Value}, Sh.co s x = x → Sh.leads s = false → AVR G w x u → AVR (G.sL F) w x u
 | .int k, x, u, hx, hl, h => by
  obtain ⟨n, rfl⟩ : ∃ n, x = .d (.int k n) := ⟨_, hx.symm⟩
  rw [h.nR]; exact .d (.int k n)
 | .bool, x, u, hx, hl, h => by
  obtain ⟨n, rfl⟩ : ∃ n, x = .d (.bool n) := ⟨_, hx.symm⟩
  rw [h.vX]; exact .d (.bool n)
 | .str, x, u, hx, hl, h => by
  obtain ⟨n, rfl⟩ : ∃ n, x = .d (.str n) := ⟨_, hx.symm⟩
  rw [h.qT]; exact .d (.str n)
 | .sl ks, x, u, hx, hl, h => by simp [Sh.leads] at hl
 | .row r ks e b, x, u, hx, hl, h => by
  obtain rfl : x = .row r := hx.symm
  cases h; exact AVR.row (G := G.sL F) r
 | .win r, x, u, hx, hl, h => by
  obtain rfl : x = .row r := hx.symm
  cases h; exact AVR.row (G := G.sL F) r
 | .ptr b o, x, u, hx, hl, h => by
  obtain rfl : x = .ptr b o := hx.symm
  cases h; exact AVR.ptr (G := G.sL F) b o
 | .agg ss, x, u, hx, hl, h => by
  obtain ⟨cs, rfl⟩ : ∃ cs, x = .agg cs := ⟨_, hx.symm⟩
  cases h with
  | agg cs vs hcs => exact .agg _ _ (aaO F ss (by simpa [Sh.co, cellsOf] using hx) (by simpa [Sh.leads] using hl) hcs)
 | .it i, x, u, hx, hl, h => by
  obtain rfl : x = .it i := hx.symm
  cases h; exact AVR.it (G := G.sL F) i
 | .nilp, x, u, hx, hl, h => by
  obtain rfl : x = .nilp := hx.symm
  cases h; exact .nilp
 | .fn f p q, x, u, hx, hl, h => by
  obtain ⟨a, b, rfl⟩ : ∃ a b, x = .fn f a b := ⟨_, _, hx.symm⟩
  simp only [Sh.co, AV.fn.injEq, true_and] at hx
  simp only [Sh.leads, Bool.or_eq_false_iff] at hl
  cases h with
  | fn _ _ _ va vc ha hc => exact .fn _ _ _ _ _ (aaO F p hx.1 hl.1 ha) (aaO F q hx.2 hl.2 hc)
 | .ifc t s, x, u, hx, hl, h => by
  obtain ⟨v, rfl⟩ : ∃ v, x = .ifc t v := ⟨_, hx.symm⟩
  simp only [Sh.co, AV.ifc.injEq, true_and] at hx
  cases h with
  | ifc _ _ v' hv => exact .ifc _ _ _ (aqz F s hx (by simpa [Sh.leads] using hl) hv)
 | .any, x, u, hx, hl, h => by simp [Sh.leads] at hl
theorem aaO {G : Gh} (F : Nat → Prop) : ∀ (ss : List Sh) {xs : List AV} {us : List Value}, Sh.coL ss xs = xs → Sh.wS ss = false → AVRs G w xs us → AVRs (G.sL F) w xs us
 | [], xs, us, hx, hl, h => by
  obtain rfl : xs = [] := hx.symm
  cases h; exact .nil
 | s :: ss, xs, us, hx, hl, h => by
  simp only [Sh.coL] at hx
  cases h with
  | nil => simp at hx
  | cons x u xs us h hs =>
   simp only [List.headD_cons, List.tail_cons, List.cons.injEq] at hx
   simp only [Sh.wS, Bool.or_eq_false_iff] at hl
   exact .cons _ _ _ _ (aqz F s hx.1 hl.1 h) (aaO F ss hx.2 hl.2 hs)
end
end
theorem any_beq {x : Nat} {l : List Nat} : l.any (Nat.beq x) = true ↔ x ∈ l := by
 rw [List.any_eq_true]
 constructor
 ·rintro ⟨y, hy, h⟩; rw [Nat.eq_of_beq_eq_true h]; exact hy
 ·intro h; exact ⟨x, h, Nat.beq_refl x⟩
theorem afi {x : Nat} : ∀ {l acc : List Nat}, x ∈ dedup acc l ↔ x ∈ acc ∨ x ∈ l
 | [], acc => by simp [dedup]
 | y :: l, acc => by
  simp only [dedup]
  split
  ·rename_i h
   rw [afi]
   have := any_beq.1 h
   constructor
   ·rintro (h | h)
    ·exact .inl h
    ·exact .inr (by simp [h])
   ·rintro (h | h)
    ·exact .inl h
    ·rcases List.mem_cons.1 h with rfl | h
     ·exact .inl this
     ·exact .inr h
  ·rw [afi]
   simp only [List.mem_cons]
   constructor
   ·rintro ((h | h) | h)
    ·exact .inr (.inl h)
    ·exact .inl h
    ·exact .inr (.inr h)
   ·rintro (h | h | h)
    ·exact .inl (.inr h)
    ·exact .inl (.inl h)
    ·exact .inr h
theorem acB : ∀ {l acc : List Nat}, acc.Nodup → (dedup acc l).Nodup
 | [], acc, h => by
  simp only [dedup]
  exact List.pairwise_reverse.2 (List.Pairwise.imp (fun h => Ne.symm h) h)
 | y :: l, acc, h => by
  simp only [dedup]
  split
  ·exact acB h
  ·rename_i hn
   refine acB (List.nodup_cons.2 ⟨fun hm => hn (any_beq.2 hm), h⟩)
theorem arf {as : List AV} {b : Nat} : b ∈ acs as ↔ .bx b ∈ AV.refsL as := by
 unfold acs
 rw [afi]
 simp only [List.not_mem_nil, false_or, List.mem_filterMap]
 constructor
 ·rintro ⟨l, hl, h⟩
  cases l <;> simp at h
  subst h; exact hl
 ·intro h; exact ⟨_, h, rfl⟩
theorem adM {x : Nat} : ∀ {l : List Nat}, x ∈ l → l[idx x l]? = some x
 | [], h => by simp at h
 | y :: l, h => by
  simp only [idx]
  cases hb : Nat.beq x y with
  | true => rw [Nat.eq_of_beq_eq_true hb]; simp
  | false =>
   have hne : x ≠ y := fun e => by subst e; simp at hb
   have := adM ((List.mem_cons.1 h).resolve_left hne)
   simpa using this
section
variable {P : Program} {E : Env} {Γ : Fun} {X : Ctx} {G : Gh} {st : Sto} {a : Act} {w : World} {tr : Tr} {po : PO}
theorem afJ (R : Rel X G st a w) {x : AV} {u : Value} {c : AV → Pr} (hx : AVR G w x u) (h : prE Γ (adO x c) st tr = some po) :
  ∃ G' st' x' tr', Rel X G' st' a w ∧ GLe G G' ∧ SLe st st' ∧ AVR G' w x' u ∧ (x.one = true → x'.one = true) ∧ (∀ l ∈ x'.refs, l ∈ x.refs) ∧ prE Γ (c x') st' tr' = some po := by
 unfold adO at h
 split at h
 ·rename_i r
  simp only [prE] at h
  split at h
  ·rename_i ks e by_ xs fz hr
   simp only [prE] at h
   obtain ⟨f, R', hf, _⟩ := R.freeze hr
   obtain ⟨q1, q2, q3, q4, q5⟩ := R'.rw r ks e by_ xs true (by simp)
   cases hx
   exact ⟨_, _, _, _, R', .kL G f, .freeze hr, .d (q4.data q3 (fun g hg => hf g hg)), fun _ => rfl, by simp [AV.refs], h⟩
  ·exact (bX h).elim
 ·rename_i r lo n
  simp only [prE] at h
  split at h
  ·rename_i ks e by_ xs fz hr
   simp only [prE] at h
   obtain ⟨f, R', hf, _⟩ := R.freeze hr
   have hwin' : AVR (G.kL f) w (.win r lo n) u := (GLe.kL G f).avr hx
   cases hx with
   | win _ _ _ b a' n0 c0 c' hv hn hc' ha =>
    obtain ⟨q1, q2, q3, q4, q5⟩ := R'.rw r ks e by_ xs true (by simp)
    have hs := (adT R' (r := r) (ks := ks) (e := e) (by_ := by_) (xs := xs) (fz := true) (by simp) hwin').1
    refine ⟨_, _, _, _, R', .kL G f, .freeze hr, .d (hs.data q3 (fun b' n' c'' hb hx => ?_)), fun _ => rfl, by simp [AV.refs], h⟩
    rw [hb] at hwin'
    exact hf _ (ajJ R' (r := r) (ks := ks) (e := e) (by_ := by_) (xs := xs) (fz := true) (by simp) hwin' hx)
  ·exact (bX h).elim
 ·exact ⟨G, st, x, tr, R, .refl _, .refl _, hx, fun h => h, fun l h => h, h⟩
theorem abc : ∀ {xs : List AV} {us : List Value} {c : List AV → Pr} {G : Gh} {st : Sto} {tr : Tr}, Rel X G st a w → AVRs G w xs us → prE Γ (aaA xs c) st tr = some po →
  ∃ G' st' xs' tr', Rel X G' st' a w ∧ GLe G G' ∧ SLe st st' ∧ AVRs G' w xs' us ∧ (xs.all AV.one = true → xs'.all AV.one = true) ∧ (∀ l ∈ AV.refsL xs', l ∈ AV.refsL xs) ∧ prE Γ (c xs') st' tr' = some po
 | [], us, c, G, st, tr, R, hx, h => ⟨G, st, [], tr, R, .refl _, .refl _, hx, fun h => h, fun l h => h, h⟩
 | x :: xs, us, c, G, st, tr, R, hx, h => by
  cases hx with
  | cons _ u _ us hxu hxs =>
   obtain ⟨G1, st1, x', tr1, R1, g1, s1, h1, o1, f1, h2⟩ := afJ R hxu (show prE Γ (adO x fun y => aaA xs fun l => c (y :: l)) st tr = some po from h)
   obtain ⟨G2, st2, xs', tr2, R2, g2, s2, h3, o2, f2, h4⟩ := abc R1 (g1.acr hxs) h2
   refine ⟨G2, st2, x' :: xs', tr2, R2, g1.trans g2, s1.trans s2, .cons _ _ _ _ (g2.avr h1) h3, fun ho => ?_, fun l hl => ?_, h4⟩
   ·simp only [List.all_cons, Bool.and_eq_true] at ho ⊢
    exact ⟨o1 ho.1, o2 ho.2⟩
   ·simp only [AV.refsL, List.mem_append] at hl ⊢
    exact hl.imp (f1 l) (f2 l)
theorem aqP (R : Rel X G st a w) {x : AV} {u : Value} {c : AV → Pr} (hx : AVR G w x u) (h : prE Γ (ajQ x c) st tr = some po) :
  ∃ G' st' x' tr', Rel X G' st' a w ∧ GLe G G' ∧ SLe st st' ∧ AVR G' w x' u ∧ (∀ l ∈ x'.refs, l ∈ x.refs) ∧ prE Γ (c x') st' tr' = some po := by
 unfold ajQ at h
 split at h
 ·rename_i cs
  cases hx with
  | agg _ vs hcs =>
   obtain ⟨G1, st1, xs', tr1, R1, g1, s1, h1, _, f1, h2⟩ := abc R hcs h
   exact ⟨G1, st1, _, tr1, R1, g1, s1, .agg _ _ h1, by simpa [AV.refs] using f1, h2⟩
 ·obtain ⟨G1, st1, x', tr1, R1, g1, s1, h1, _, f1, h2⟩ := afJ R hx h
  exact ⟨G1, st1, x', tr1, R1, g1, s1, h1, f1, h2⟩
theorem ahY : ∀ {xs : List AV} {us : List Value} {c : List AV → Pr} {G : Gh} {st : Sto} {tr : Tr}, Rel X G st a w → AVRs G w xs us → prE Γ (afa xs c) st tr = some po →
  ∃ G' st' xs' tr', Rel X G' st' a w ∧ GLe G G' ∧ SLe st st' ∧ AVRs G' w xs' us ∧ (∀ l ∈ AV.refsL xs', l ∈ AV.refsL xs) ∧ prE Γ (c xs') st' tr' = some po
 | [], us, c, G, st, tr, R, hx, h => ⟨G, st, [], tr, R, .refl _, .refl _, hx, fun l h => h, h⟩
 | x :: xs, us, c, G, st, tr, R, hx, h => by
  cases hx with
  | cons _ u _ us hxu hxs =>
   obtain ⟨G1, st1, x', tr1, R1, g1, s1, h1, f1, h2⟩ := aqP R hxu (show prE Γ (ajQ x fun y => afa xs fun l => c (y :: l)) st tr = some po from h)
   obtain ⟨G2, st2, xs', tr2, R2, g2, s2, h3, f2, h4⟩ := ahY R1 (g1.acr hxs) h2
   refine ⟨G2, st2, x' :: xs', tr2, R2, g1.trans g2, s1.trans s2, .cons _ _ _ _ (g2.avr h1) h3, fun l hl => ?_, h4⟩
   simp only [AV.refsL, List.mem_append] at hl ⊢
   exact hl.imp (f1 l) (f2 l)
theorem ajA (R : Rel X G st a w) {k : Option (List CK × TypeId × Nat)} {x : AV} {u : Value} {c : AV → Pr} (hx : AVR G w x u) (h : prE Γ (aed k x c) st tr = some po) :
  ∃ G' st' x' tr', Rel X G' st' a w ∧ GLe G G' ∧ AVR G' w x' u ∧ prE Γ (c x') st' tr' = some po := by
 unfold aed at h
 split at h
 ·exact ⟨G, st, x, tr, R, .refl _, hx, h⟩
 ·obtain ⟨G1, st1, x', tr1, R1, g1, s1, h1, _, f1, h2⟩ := afJ R hx h
  exact ⟨G1, st1, x', tr1, R1, g1, h1, h2⟩
theorem ahM : ∀ {ks : List (Option (List CK × TypeId × Nat))} {xs : List AV} {us : List Value} {c : List AV → Pr} {G : Gh} {st : Sto} {tr : Tr}, Rel X G st a w → AVRs G w xs us → prE Γ (afq ks xs c) st tr = some po →
  ∃ G' st' xs' tr', Rel X G' st' a w ∧ GLe G G' ∧ AVRs G' w xs' us ∧ prE Γ (c xs') st' tr' = some po
 | [], xs, us, c, G, st, tr, R, hx, h => by
  obtain ⟨G1, st1, xs', tr1, R1, g1, s1, h1, _, f1, h2⟩ := abc R hx (show prE Γ (aaA xs c) st tr = some po by cases xs <;> exact h)
  exact ⟨G1, st1, xs', tr1, R1, g1, h1, h2⟩
 | k :: ks, [], us, c, G, st, tr, R, hx, h => by
  cases hx
  exact ⟨G, st, [], tr, R, .refl _, .nil, h⟩
 | k :: ks, x :: xs, us, c, G, st, tr, R, hx, h => by
  cases hx with
  | cons _ u _ us hxu hxs =>
   obtain ⟨G1, st1, x', tr1, R1, g1, h1, h2⟩ := ajA R hxu (show prE Γ (aed k x fun y => afq ks xs fun l => c (y :: l)) st tr = some po from h)
   obtain ⟨G2, st2, xs', tr2, R2, g2, h3, h4⟩ := ahM R1 (g1.acr hxs) h2
   exact ⟨G2, st2, x' :: xs', tr2, R2, g1.trans g2, .cons _ _ _ _ (g2.avr h1) h3, h4⟩
theorem aof (R : Rel X G st a w) {ks : List (Option (List CK × TypeId × Nat))} {x : AV} {u : Value} {c : AV → Pr} (hx : AVR G w x u) (h : prE Γ (ae4 ks x c) st tr = some po) :
  ∃ G' st' x' tr', Rel X G' st' a w ∧ GLe G G' ∧ AVR G' w x' u ∧ prE Γ (c x') st' tr' = some po := by
 unfold ae4 at h
 split at h
 ·cases hx with
  | agg _ vs hcs =>
   obtain ⟨G1, st1, xs', tr1, R1, g1, h1, h2⟩ := ahM R hcs h
   exact ⟨G1, st1, _, tr1, R1, g1, .agg _ _ h1, h2⟩
 ·exact ajA R hx h
theorem agx : ∀ {ks : List (List (Option (List CK × TypeId × Nat)))} {xs : List AV} {us : List Value} {c : List AV → Pr} {G : Gh} {st : Sto} {tr : Tr}, Rel X G st a w → AVRs G w xs us → prE Γ (ady ks xs c) st tr = some po →
  ∃ G' st' xs' tr', Rel X G' st' a w ∧ GLe G G' ∧ AVRs G' w xs' us ∧ prE Γ (c xs') st' tr' = some po
 | [], xs, us, c, G, st, tr, R, hx, h => ⟨G, st, xs, tr, R, .refl _, hx, by cases xs <;> exact h⟩
 | k :: ks, [], us, c, G, st, tr, R, hx, h => by
  cases hx
  exact ⟨G, st, [], tr, R, .refl _, .nil, h⟩
 | k :: ks, x :: xs, us, c, G, st, tr, R, hx, h => by
  cases hx with
  | cons _ u _ us hxu hxs =>
   obtain ⟨G1, st1, x', tr1, R1, g1, h1, h2⟩ := aof R hxu (show prE Γ (ae4 k x fun y => ady ks xs fun l => c (y :: l)) st tr = some po from h)
   obtain ⟨G2, st2, xs', tr2, R2, g2, h3, h4⟩ := agx R1 (g1.acr hxs) h2
   exact ⟨G2, st2, x' :: xs', tr2, R2, g1.trans g2, .cons _ _ _ _ (g2.avr h1) h3, h4⟩
structure NLe (G : Gh) (st : Sto) (w : World) (G' : Gh) (st' : Sto) : Prop where
 reg : ∀ l, st l ≠ .none → st' l ≠ .none
 avr : ∀ {x : AV} {u : Value}, AVR G w x u → (∀ l ∈ x.refs, st l ≠ .none) → AVR G' w x u
theorem NLe.refl (G : Gh) (st : Sto) (w : World) : NLe G st w G st := ⟨fun _ h => h, fun h _ => h⟩
theorem NLe.trans {G G1 G2 : Gh} {st st1 st2 : Sto} (h : NLe G st w G1 st1) (k : NLe G1 st1 w G2 st2) : NLe G st w G2 st2 :=
 ⟨fun l hl => k.reg l (h.reg l hl), fun hx hr => k.avr (h.avr hx hr) (fun l hl => h.reg l (hr l hl))⟩
theorem NLe.acr {G G' : Gh} {st st' : Sto} (h : NLe G st w G' st') : ∀ {xs : List AV} {us : List Value}, AVRs G w xs us → (∀ l ∈ AV.refsL xs, st l ≠ .none) → AVRs G' w xs us
 | _, _, .nil, _ => .nil
 | _, _, .cons x u xs us hx hs, hr => .cons _ _ _ _ (h.avr hx fun l hl => hr l (by simp [AV.refsL, hl])) (h.acr hs fun l hl => hr l (by simp [AV.refsL, hl]))
theorem aky (R : Rel X G st a w) {n : Nat} {k : Option (List CK × TypeId × Nat)} {x : AV} {u : Value} {c : AV → Pr} (hx : AVR G w x u) (hr : ∀ l ∈ x.refs, st l ≠ .none) (h : prE Γ (agw n k x c) st tr = some po) :
  ∃ G' st' x' tr', Rel X G' st' a w ∧ NLe G st w G' st' ∧ AVR G' w x' u ∧ (∀ l ∈ x'.refs, st' l ≠ .none) ∧ prE Γ (c x') st' tr' = some po := by
 unfold agw at h
 split at h
 ·rename_i ks e b
  obtain ⟨hc, h1⟩ := dF h
  simp only [Bool.and_eq_true, Bool.not_eq_true'] at hc
  obtain ⟨hf, tr', h2⟩ := acT h1
  simp only [prE] at h2
  have hk0 : 0 < ks.length := by
   rcases ks with _ | ⟨k, ks⟩
   ·simp at hc
   ·simp
  cases hx with
  | nil ad =>
   have hb : ∀ g, rowBlk (.slice ad 0 0) = some g → False := fun g hg => by cases ad <;> simp [rowBlk] at hg
   have R1 := R.amp hf (by_ := b) (ks := ks) (e := e) (xs := []) (v := .slice ad 0 0) hc.1 hk0 ⟨by simp, .inl ⟨ad, rfl, rfl⟩⟩ (fun g hg => (hb g hg).elim)
   refine ⟨_, _, .row n, _, R1, ⟨fun l hl => ?_, fun {y v} hy hry => ?_⟩, ?_, ?_, h2⟩
   ·by_cases e' : Loc.rw n = l
    ·subst e'; simp
    ·rw [bH _ _ e']; exact hl
   ·refine AVR.mono (G := G) (G' := G.nV n (.slice ad 0 0) ks.length) (w := w) (w' := w) (fun _ h => h) (fun _ _ => rfl) hy (fun l hl => ?_)
    have hl' := hry l hl
    cases l <;> simp only [kX, Gh.nV]
    rename_i m
    have : m ≠ n := by rintro rfl; exact hl' hf
    simp [this]
   ·have hG : (G.nV n (.slice ad 0 0) ks.length).rv n = .slice ad 0 0 := by simp [Gh.nV]
    have := AVR.row (G := G.nV n (.slice ad 0 0) ks.length) (w := w) n
    rwa [hG] at this
   ·intro l hl
    simp [AV.refs] at hl
    subst hl
    simp
 ·exact ⟨G, st, x, tr, R, .refl _ _ _, hx, hr, h⟩
theorem ajB : ∀ {ks : List (Option (List CK × TypeId × Nat))} {n : Nat} {xs : List AV} {us : List Value} {c : List AV → Pr} {G : Gh} {st : Sto} {tr : Tr}, Rel X G st a w → AVRs G w xs us → (∀ l ∈ AV.refsL xs, st l ≠ .none) → prE Γ (ahG n ks xs c) st tr = some po →
  ∃ G' st' xs' tr', Rel X G' st' a w ∧ NLe G st w G' st' ∧ AVRs G' w xs' us ∧ (∀ l ∈ AV.refsL xs', st' l ≠ .none) ∧ prE Γ (c xs') st' tr' = some po
 | [], n, xs, us, c, G, st, tr, R, hx, hr, h => ⟨G, st, xs, tr, R, .refl _ _ _, hx, hr, by cases xs <;> exact h⟩
 | k :: ks, n, [], us, c, G, st, tr, R, hx, hr, h => by
  cases hx
  exact ⟨G, st, [], tr, R, .refl _ _ _, .nil, by simp [AV.refsL], h⟩
 | k :: ks, n, x :: xs, us, c, G, st, tr, R, hx, hr, h => by
  cases hx with
  | cons _ u _ us hxu hxs =>
   have hr1 : ∀ l ∈ x.refs, st l ≠ .none := fun l hl => hr l (by simp [AV.refsL, hl])
   have hr2 : ∀ l ∈ AV.refsL xs, st l ≠ .none := fun l hl => hr l (by simp [AV.refsL, hl])
   obtain ⟨G1, st1, x', tr1, R1, g1, h1, f1, h2⟩ := aky R hxu hr1 (show prE Γ (agw n k x fun y => ahG (n + 1) ks xs fun l => c (y :: l)) st tr = some po from h)
   obtain ⟨G2, st2, xs', tr2, R2, g2, h3, f2, h4⟩ := ajB R1 (g1.acr hxs hr2) (fun l hl => g1.reg l (hr2 l hl)) h2
   refine ⟨G2, st2, x' :: xs', tr2, R2, g1.trans g2, .cons _ _ _ _ (g2.avr h1 f1) h3, fun l hl => ?_, h4⟩
   simp only [AV.refsL, List.mem_append] at hl
   exact hl.elim (fun hl => g2.reg l (f1 l hl)) (f2 l)
theorem aqY (R : Rel X G st a w) {n : Nat} {ks : List (Option (List CK × TypeId × Nat))} {x : AV} {u : Value} {c : AV → Pr} (hx : AVR G w x u) (hr : ∀ l ∈ x.refs, st l ≠ .none) (h : prE Γ (ajT n ks x c) st tr = some po) :
  ∃ G' st' x' tr', Rel X G' st' a w ∧ NLe G st w G' st' ∧ AVR G' w x' u ∧ (∀ l ∈ x'.refs, st' l ≠ .none) ∧ prE Γ (c x') st' tr' = some po := by
 unfold ajT at h
 split at h
 ·cases hx with
  | agg _ vs hcs =>
   obtain ⟨G1, st1, xs', tr1, R1, g1, h1, f1, h2⟩ := ajB R hcs (by simpa [AV.refs] using hr) h
   exact ⟨G1, st1, _, tr1, R1, g1, .agg _ _ h1, by simpa [AV.refs] using f1, h2⟩
 ·exact aky R hx hr h
theorem aqK : ∀ {ks : List (List (Option (List CK × TypeId × Nat)))} {n : Nat} {xs : List AV} {us : List Value} {c : List AV → Pr} {G : Gh} {st : Sto} {tr : Tr}, Rel X G st a w → AVRs G w xs us → (∀ l ∈ AV.refsL xs, st l ≠ .none) → prE Γ (agm n ks xs c) st tr = some po →
  ∃ G' st' xs' tr', Rel X G' st' a w ∧ AVRs G' w xs' us ∧ prE Γ (c xs') st' tr' = some po
 | [], n, xs, us, c, G, st, tr, R, hx, hr, h => ⟨G, st, xs, tr, R, hx, by cases xs <;> exact h⟩
 | k :: ks, n, [], us, c, G, st, tr, R, hx, hr, h => by
  cases hx
  exact ⟨G, st, [], tr, R, .nil, h⟩
 | k :: ks, n, x :: xs, us, c, G, st, tr, R, hx, hr, h => by
  suffices H : ∃ G' st' xs' tr', Rel X G' st' a w ∧ NLe G st w G' st' ∧ AVRs G' w xs' us ∧ (∀ l ∈ AV.refsL xs', st' l ≠ .none) ∧ prE Γ (c xs') st' tr' = some po by
   obtain ⟨G', st', xs', tr', h1, _, h2, _, h3⟩ := H
   exact ⟨G', st', xs', tr', h1, h2, h3⟩
  exact nilRows_aux hr hx R h
where
 nilRows_aux : ∀ {ks : List (List (Option (List CK × TypeId × Nat)))} {n : Nat} {xs : List AV} {us : List Value} {c : List AV → Pr} {G : Gh} {st : Sto} {tr : Tr}, (∀ l ∈ AV.refsL xs, st l ≠ .none) → AVRs G w xs us → Rel X G st a w → prE Γ (agm n ks xs c) st tr = some po →
  ∃ G' st' xs' tr', Rel X G' st' a w ∧ NLe G st w G' st' ∧ AVRs G' w xs' us ∧ (∀ l ∈ AV.refsL xs', st' l ≠ .none) ∧ prE Γ (c xs') st' tr' = some po
 | [], n, xs, us, c, G, st, tr, hr, hx, R, h => ⟨G, st, xs, tr, R, .refl _ _ _, hx, hr, by cases xs <;> exact h⟩
 | k :: ks, n, [], us, c, G, st, tr, hr, hx, R, h => by
  cases hx
  exact ⟨G, st, [], tr, R, .refl _ _ _, .nil, by simp [AV.refsL], h⟩
 | k :: ks, n, x :: xs, us, c, G, st, tr, hr, hx, R, h => by
  cases hx with
  | cons _ u _ us hxu hxs =>
   have hr1 : ∀ l ∈ x.refs, st l ≠ .none := fun l hl => hr l (by simp [AV.refsL, hl])
   have hr2 : ∀ l ∈ AV.refsL xs, st l ≠ .none := fun l hl => hr l (by simp [AV.refsL, hl])
   obtain ⟨G1, st1, x', tr1, R1, g1, h1, f1, h2⟩ := aqY R hxu hr1 (show prE Γ (ajT n k x fun y => agm (n + 1000) ks xs fun l => c (y :: l)) st tr = some po from h)
   obtain ⟨G2, st2, xs', tr2, R2, g2, h3, f2, h4⟩ := nilRows_aux (fun l hl => g1.reg l (hr2 l hl)) (g1.acr hxs hr2) R1 h2
   refine ⟨G2, st2, x' :: xs', tr2, R2, g1.trans g2, .cons _ _ _ _ (g2.avr h1 f1) h3, fun l hl => ?_, h4⟩
   simp only [AV.refsL, List.mem_append] at hl
   exact hl.elim (fun hl => g2.reg l (f1 l hl)) (f2 l)
def Gh.ag4 (G : Gh) (st : Sto) : Gh := G.kL fun k => ∃ r, blk G st (.rw r) = some k
theorem arD (R : Rel X G st a w) {r : Nat} {ks e by_ xs fz} (hr : st (.rw r) = .row ks e by_ xs fz) : ∀ g, rowBlk (G.rv r) = some g → (G.ag4 st).F g := by
 intro g hg
 obtain ⟨q1, q2, q3, q4, q5⟩ := R.rw r _ _ _ _ _ hr
 cases fz with
 | true => exact .inl (q5 rfl g hg)
 | false => exact .inr ⟨r, by simp [blk, hr, hg]⟩
theorem anR (R : Rel X G st a w) {x : AV} {u : Value} {c : AV → Pr} (hx : AVR G w x u) (h : prE Γ (alF x c) st tr = some po) :
  ∃ x' tr', AVR (G.ag4 st) w x' u ∧ (∀ l ∈ x'.refs, l ∈ x.refs) ∧ prE Γ (c x') st tr' = some po := by
 have hle : GLe G (G.ag4 st) := .kL G _
 unfold alF at h
 split at h
 ·rename_i r
  simp only [prE] at h
  split at h
  ·rename_i ks e by_ xs fz hr
   obtain ⟨q1, q2, q3, q4, q5⟩ := R.rw r _ _ _ _ _ hr
   cases hx
   exact ⟨_, _, .d ((q4.mono hle.F (fun _ _ => rfl) (fun _ _ => rfl)).data q3 (arD R hr)), by simp [AV.refs], h⟩
  ·exact (bX h).elim
 ·rename_i r lo n
  simp only [prE] at h
  split at h
  ·rename_i ks e by_ xs fz hr
   have hx' := hx
   cases hx with
   | win _ _ _ b a' n0 c0 c' hv hn hc' ha =>
    obtain ⟨q1, q2, q3, q4, q5⟩ := R.rw r _ _ _ _ _ hr
    obtain ⟨⟨base, cc, z1, z2, z3, z4⟩, z5⟩ := (adT R hr hx').1
    have hs' : SlV (G.ag4 st).F w ks ((xs.drop lo).take n) (.slice a' n c') :=
     ⟨⟨base, cc, z1, z2, z3, fun ad j el i d k y1 y2 y3 y4 => by obtain ⟨u, hu, hd⟩ := z4 ad j el i d k y1 y2 y3 y4; exact ⟨u, hu, hd.mono hle.F (fun _ _ => rfl)⟩⟩, z5⟩
    refine ⟨_, _, .d (hs'.data q3 (fun b' n' c'' hb hne => ?_)), by simp [AV.refs], h⟩
    rw [hb] at hx'
    exact arD R hr _ (ajJ R hr hx' hne)
  ·exact (bX h).elim
 ·exact ⟨x, tr, hle.avr hx, fun l h => h, h⟩
theorem alk (R : Rel X G st a w) : ∀ {xs : List AV} {us : List Value} {c : List AV → Pr} {tr : Tr}, AVRs G w xs us → prE Γ (alN xs c) st tr = some po →
  ∃ xs' tr', AVRs (G.ag4 st) w xs' us ∧ (∀ l ∈ AV.refsL xs', l ∈ AV.refsL xs) ∧ prE Γ (c xs') st tr' = some po
 | [], us, c, tr, hx, h => by cases hx; exact ⟨[], tr, .nil, fun l h => h, h⟩
 | x :: xs, us, c, tr, hx, h => by
  cases hx with
  | cons _ u _ us hxu hxs =>
   obtain ⟨x', tr1, h1, f1, h2⟩ := anR R hxu (show prE Γ (alF x fun y => alN xs fun l => c (y :: l)) st tr = some po from h)
   obtain ⟨xs', tr2, h3, f2, h4⟩ := alk R hxs h2
   refine ⟨x' :: xs', tr2, .cons _ _ _ _ h1 h3, fun l hl => ?_, h4⟩
   simp only [AV.refsL, List.mem_append] at hl ⊢
   exact hl.imp (f1 l) (f2 l)
theorem avC (R : Rel X G st a w) {x : AV} {u : Value} {c : AV → Pr} (hx : AVR G w x u) (h : prE Γ (aso x c) st tr = some po) :
  ∃ x' tr', AVR (G.ag4 st) w x' u ∧ (∀ l ∈ x'.refs, l ∈ x.refs) ∧ prE Γ (c x') st tr' = some po := by
 unfold aso at h
 split at h
 ·cases hx with
  | agg _ vs hcs =>
   obtain ⟨xs', tr1, h1, f1, h2⟩ := alk R hcs h
   exact ⟨_, tr1, .agg _ _ h1, by simpa [AV.refs] using f1, h2⟩
 ·exact anR R hx h
theorem ako (R : Rel X G st a w) : ∀ {xs : List AV} {us : List Value} {c : List AV → Pr} {tr : Tr}, AVRs G w xs us → prE Γ (ajL xs c) st tr = some po →
  ∃ xs' tr', AVRs (G.ag4 st) w xs' us ∧ (∀ l ∈ AV.refsL xs', l ∈ AV.refsL xs) ∧ prE Γ (c xs') st tr' = some po
 | [], us, c, tr, hx, h => by cases hx; exact ⟨[], tr, .nil, fun l h => h, h⟩
 | x :: xs, us, c, tr, hx, h => by
  cases hx with
  | cons _ u _ us hxu hxs =>
   obtain ⟨x', tr1, h1, f1, h2⟩ := avC R hxu (show prE Γ (aso x fun y => ajL xs fun l => c (y :: l)) st tr = some po from h)
   obtain ⟨xs', tr2, h3, f2, h4⟩ := ako R hxs h2
   refine ⟨x' :: xs', tr2, .cons _ _ _ _ h1 h3, fun l hl => ?_, h4⟩
   simp only [AV.refsL, List.mem_append] at hl ⊢
   exact hl.imp (f1 l) (f2 l)
end
end PX
set_option linter.unusedVariables false
set_option linter.unusedSimpArgs false
namespace PX
open Go
structure TLe (st st' : Sto) : Prop where
 oth : ∀ l, (∀ r, l ≠ .rw r) → (∀ b o, l ≠ .bc b o) → st' l = st l
 row : ∀ r, st' (.rw r) = st (.rw r) ∨ ∃ ks e b xs fz, st (.rw r) = .row ks e b xs fz ∧ st' (.rw r) = .row ks e b xs true
 bc : ∀ b o, st (.bc b o) ≠ .none → st' (.bc b o) ≠ .none
theorem TLe.refl (st : Sto) : TLe st st := ⟨fun _ _ _ => rfl, fun _ => .inl rfl, fun _ _ h => h⟩
theorem TLe.trans {a b c : Sto} (h : TLe a b) (k : TLe b c) : TLe a c := by
 refine ⟨fun l h1 h2 => (k.oth l h1 h2).trans (h.oth l h1 h2), fun r => ?_, fun b o hb => k.bc b o (h.bc b o hb)⟩
 rcases h.row r with h1 | ⟨ks, e, by_, xs, fz, h1, h2⟩ <;> rcases k.row r with k1 | ⟨ks', e', by', xs', fz', k1, k2⟩
 ·exact .inl (k1.trans h1)
 ·exact .inr ⟨ks', e', by', xs', fz', h1 ▸ k1, k2⟩
 ·exact .inr ⟨ks, e, by_, xs, fz, h1, k1.trans h2⟩
 ·rw [h2] at k1; injection k1 with e1 e2 e3 e4 e5
  subst e1; subst e2; subst e3; subst e4
  exact .inr ⟨ks, e, by_, xs, fz, h1, k2⟩
theorem SLe.tle {st st' : Sto} (h : SLe st st') : TLe st st' := ⟨fun l h1 _ => h.oth l h1, h.row, fun b o hb => by rw [h.oth _ (by simp)]; exact hb⟩
theorem TLe.none {st st' : Sto} (h : TLe st st') {l : Loc} (hl : st l ≠ .none) : st' l ≠ .none := by
 cases l with
 | rw r =>
  rcases h.row r with h1 | ⟨ks, e, b, xs, fz, h1, h2⟩
  ·rw [h1]; exact hl
  ·rw [h2]; simp
 | tm i => rw [h.oth _ (by simp) (by simp)]; exact hl
 | bc i j => exact h.bc i j hl
 | bx i => rw [h.oth _ (by simp) (by simp)]; exact hl
 | it i => rw [h.oth _ (by simp) (by simp)]; exact hl
def bxC : Nat → List Nat → List Cn
 | _, [] => []
 | k, o :: r => .bx o (2000000000 + k) :: bxC (k + 1) r
def rwC : Nat → List Nat → List Cn
 | _, [] => []
 | k, o :: r => .rw o (2000000000 + k) :: rwC (k + 1) r
theorem acu {x : Cn} : ∀ {l : List Nat} {k : Nat}, x ∈ bxC k l ↔ ∃ j o, l[j]? = some o ∧ x = .bx o (2000000000 + (k + j))
 | [], k => by simp [bxC]
 | o :: l, k => by
  simp only [bxC, List.mem_cons, acu (l := l)]
  constructor
  ·rintro (rfl | ⟨j, o', h1, h2⟩)
   ·exact ⟨0, o, by simp, rfl⟩
   ·exact ⟨j + 1, o', by simpa using h1, by rw [h2]; congr 2; omega⟩
  ·rintro ⟨j, o', h1, h2⟩
   cases j with
   | zero => simp at h1; subst h1; exact .inl h2
   | succ j => exact .inr ⟨j, o', by simpa using h1, by rw [h2]; congr 2; omega⟩
theorem acv {x : Cn} : ∀ {l : List Nat} {k : Nat}, x ∈ rwC k l ↔ ∃ j o, l[j]? = some o ∧ x = .rw o (2000000000 + (k + j))
 | [], k => by simp [rwC]
 | o :: l, k => by
  simp only [rwC, List.mem_cons, acv (l := l)]
  constructor
  ·rintro (rfl | ⟨j, o', h1, h2⟩)
   ·exact ⟨0, o, by simp, rfl⟩
   ·exact ⟨j + 1, o', by simpa using h1, by rw [h2]; congr 2; omega⟩
  ·rintro ⟨j, o', h1, h2⟩
   cases j with
   | zero => simp at h1; subst h1; exact .inl h2
   | succ j => exact .inr ⟨j, o', by simpa using h1, by rw [h2]; congr 2; omega⟩
theorem aqr : ∀ {c : List Cn}, acf c = true ↔ c.Pairwise fun x y => Cn.meets x y = false
 | [] => by simp [acf]
 | x :: c => by simp only [acf, Bool.and_eq_true, List.all_eq_true, Bool.not_eq_true', List.pairwise_cons, aqr (c := c)]
theorem auH : ∀ {l : List Nat} {k : Nat}, l.Nodup → (bxC k l).Pairwise fun x y => Cn.meets x y = false
 | [], k, _ => by simp [bxC]
 | o :: l, k, h => by
  simp only [bxC, List.pairwise_cons]
  obtain ⟨h1, h2⟩ := List.nodup_cons.1 h
  refine ⟨fun y hy => ?_, auH h2⟩
  obtain ⟨j, o', h3, rfl⟩ := acu.1 hy
  have : o ≠ o' := fun e => h1 (by rw [e]; exact List.mem_of_getElem? h3)
  simp only [Cn.meets, bne_eq_false_iff_eq]
  rw [beq_false this, beq_false (by omega)]
theorem at7 : ∀ {l : List Nat} {k : Nat}, l.Nodup → (rwC k l).Pairwise fun x y => Cn.meets x y = false
 | [], k, _ => by simp [rwC]
 | o :: l, k, h => by
  simp only [rwC, List.pairwise_cons]
  obtain ⟨h1, h2⟩ := List.nodup_cons.1 h
  refine ⟨fun y hy => ?_, at7 h2⟩
  obtain ⟨j, o', h3, rfl⟩ := acv.1 hy
  have : o ≠ o' := fun e => h1 (by rw [e]; exact List.mem_of_getElem? h3)
  simp only [Cn.meets, bne_eq_false_iff_eq]
  rw [beq_false this, beq_false (by omega)]
theorem avM {bl rl : List Nat} (h1 : bl.Nodup) (h2 : rl.Nodup) : acf (bxC 0 bl ++ rwC 0 rl) = true := by
 rw [aqr, List.pairwise_append]
 refine ⟨auH h1, at7 h2, fun x hx y hy => ?_⟩
 obtain ⟨j, o, _, rfl⟩ := acu.1 hx
 obtain ⟨j', o', _, rfl⟩ := acv.1 hy
 rfl
theorem as5 (bl rl : List Nat) : nils (bxC 0 bl ++ rwC 0 rl) = [] := by
 refine List.eq_nil_iff_forall_not_mem.2 (fun n hn => ?_)
 obtain ⟨ks, e, b, hm⟩ := ad6 hn
 rcases List.mem_append.1 hm with h | h
 ·obtain ⟨j, o, _, e⟩ := acu.1 h; cases e
 ·obtain ⟨j, o, _, e⟩ := acv.1 h; cases e
theorem ads (bs : List Bx) (rs : List Rw) (l : Loc) : inSto bs rs l = .none ∨ (∃ (j : Nat) (r : Rw), rs[j]? = some r ∧ l = .rw (2000000000 + j) ∧ inSto bs rs l = .row r.ks r.e r.bytes r.xs false) ∨
  (∃ (j : Nat) (b : Bx), bs[j]? = some b ∧ l = .bx (2000000000 + j) ∧ inSto bs rs l = .bx b.t b.cells.length) ∨
  (∃ (j : Nat) (b : Bx) (i : Nat) (x : AV), bs[j]? = some b ∧ b.cells[i]? = some x ∧ l = .bc (2000000000 + j) i ∧ inSto bs rs l = .av x) := by
 unfold inSto
 rcases tZ rs 2000000000 (cX 2000000000 bs Sto.nil) l with h1 | h1
 ·rcases sG bs 2000000000 Sto.nil l with h2 | ⟨j, b, q1, q2, q3⟩ | ⟨j, b, i, x, q1, q2, q3, q4⟩
  ·exact .inl (by rw [h1, h2]; rfl)
  ·exact .inr (.inr (.inl ⟨j, b, q1, q2, by rw [h1, q3]⟩))
  ·exact .inr (.inr (.inr ⟨j, b, i, x, q1, q2, q3, by rw [h1, q4]⟩))
 ·exact .inr (.inl h1)
theorem aoV (bs : List Bx) (rs : List Rw) {j : Nat} {b : Bx} (h : bs[j]? = some b) : inSto bs rs (.bx (2000000000 + j)) = .bx b.t b.cells.length := by
 unfold inSto
 rcases tZ rs 2000000000 (cX 2000000000 bs Sto.nil) (.bx (2000000000 + j)) with h1 | ⟨_, _, _, h2, _⟩
 ·rw [h1, xE _ _ _ h]
 ·cases h2
theorem apO (bs : List Bx) (rs : List Rw) {j : Nat} {r : Rw} (h : rs[j]? = some r) : inSto bs rs (.rw (2000000000 + j)) = .row r.ks r.e r.bytes r.xs false := by
 unfold inSto
 exact afj _ _ _ h
section
variable {P : Program} {E : Env} {Γ : Fun} {X : Ctx} {G : Gh} {st : Sto} {a : Act} {w : World} {tr : Tr} {po : PO}
structure arO (G : Gh) (st : Sto) (w : World) (o : Nat) (b : Bx) : Prop where
 bx : st (.bx o) = .bx b.t b.cells.length
 mem : ∃ arr, w.heap[G.bb o]? = some (.cells arr b.t (0, 0)) ∧ arr.size = b.cells.length ∧ AVRs G w b.cells arr.toList
 one : b.cells.all AV.one = true
 flat : AV.refsL b.cells = []
theorem avH {k : CK} {x : AV} {v : Value} (h : AVR G w x v) : AVR G w (ap2 k x) v := by
 unfold ap2
 split
 ·rename_i ks
  split
  ·rename_i hk
   cases h with
   | nil a => exact .d (.sl ks [] a 0 (fun _ _ => undef) (by simp) (by simp) (by simp) hk (by simp) (by simp))
  ·exact h
 ·exact h
theorem awd {k : CK} {x : AV} (h : x.one = true) : (ap2 k x).one = true := by
 unfold ap2
 split
 ·split
  ·rfl
  ·exact h
 ·exact h
theorem amd : ∀ {ks : List CK} {cs : List AV} {vs : List Value}, AVRs G w cs vs → AVRs G w (adl ks cs) vs
 | [], _, _, h => by simpa [adl] using h
 | _ :: _, [], _, h => by simpa [adl] using h
 | k :: ks, x :: cs, _, .cons _ v _ vs h hs => .cons _ _ _ _ (avH h) (amd hs)
theorem anB : ∀ {ks : List CK} {cs : List AV}, cs.all AV.one = true → (adl ks cs).all AV.one = true
 | [], _, h => by simpa [adl] using h
 | _ :: _, [], h => by simp [adl]
 | k :: ks, x :: cs, h => by
  simp only [List.all_cons, Bool.and_eq_true, adl] at h ⊢
  exact ⟨awd h.1, anB h.2⟩
theorem ahn {t : TypeId} {cs : List AV} {vs : List Value} (h : AVRs G w cs vs) : AVRs G w (ahF E t cs) vs := by
 unfold ahF; split
 ·exact amd h
 ·exact h
theorem atD {t : TypeId} {cs : List AV} (h : cs.all AV.one = true) : (ahF E t cs).all AV.one = true := by
 unfold ahF; split
 ·exact anB h
 ·exact h
theorem au6 {t : TypeId} {x : AV} {v : Value} (h : AVR G w x v) : AVR G w (awn E t x) v := by
 unfold awn
 split
 ·cases h with
  | agg cs vs h => exact .agg _ _ (ahn h)
 ·have h1 : AVRs G w [AV.nil] [v] := .cons _ _ _ _ h .nil
  have h2 := ahn (E := E) (t := t) h1
  split
  ·rename_i x hx
   rw [hx] at h2
   cases h2 with | cons _ _ _ _ h _ => exact h
  ·exact h
 ·exact h
theorem alY : ∀ {ts : List TypeId} {as : List AV} {vs : List Value}, AVRs G w as vs → AVRs G w (ami E ts as) vs
 | [], _, _, h => by simpa [ami] using h
 | _ :: _, [], _, h => by simpa [ami] using h
 | t :: ts, x :: as, _, .cons _ v _ vs h hs => .cons _ _ _ _ (au6 h) (alY hs)
theorem air {f : FuncId} {as : List AV} {vs : List Value} (h : AVRs G w as vs) : AVRs G w (agR E f as) vs := by
 unfold agR
 cases E.kn f
 case true => exact h
 simp only [cond_false]
 split
 ·exact alY h
 ·exact h
theorem ahZ : ∀ {bl : List Nat} {c : List Bx → Pr} {G : Gh} {st : Sto} {tr : Tr}, Rel X G st a w → prE Γ (afl E bl c) st tr = some po →
  ∃ G' st' bs tr', Rel X G' st' a w ∧ GLe G G' ∧ TLe st st' ∧ bs.length = bl.length ∧ (∀ (j : Nat) (b : Bx), bs[j]? = some b → ∃ o, bl[j]? = some o ∧ arO G' st' w o b) ∧ prE Γ (c bs) st' tr' = some po
 | [], c, G, st, tr, R, h => ⟨G, st, [], tr, R, .refl _, .refl _, rfl, by simp, h⟩
 | b :: bl, c, G, st, tr, R, h => by
  simp only [afl, prE] at h
  split at h
  ·rename_i t n hb
   obtain ⟨cs, tr1, hl, hcs, h1⟩ := aeJ h
   obtain ⟨vs, hvs, hcell⟩ := ab6 R (b := b) (off := 0) (cs := cs) hcs
   obtain ⟨arr, harr, hsz⟩ := R.bx b t n hb
   have hvl : vs.length = n := by rw [← hl]; exact hvs.length.symm
   have hva : vs = arr.toList := by
    apply List.ext_getElem?
    intro i
    by_cases hi : i < n
    ·have h2 := hcell i (vs[i]'(by omega)) (List.getElem?_eq_getElem _)
     rw [cell_of_row w _ _ arr t (0, 0) harr, Nat.zero_add] at h2
     rw [List.getElem?_eq_getElem (by omega), Array.getElem?_toList, h2]
    ·rw [List.getElem?_eq_none (by omega), List.getElem?_eq_none (by simp; omega)]
   subst hva
   obtain ⟨G1, st1, cs', tr2, R1, g1, s1, h2, o1, f1, h3⟩ := abc R (ahn (E := E) (t := t) hvs) h1
   obtain ⟨hflat, h4⟩ := dF h3
   obtain ⟨tr3, hex, h5⟩ := abP h4
   have hflat' : AV.refsL cs' = [] := by simpa using hflat
   have hone := o1 (atD (AVRs.amG R hcs))
   have hcl : cs'.length = n := by rw [h2.length, hvl]
   have hb1 : st1 (.bx b) = .bx t n := by rw [s1.oth _ (by simp)]; exact hb
   have harr1 : w.heap[G1.bb b]? = some (.cells arr t (0, 0)) := by rw [g1.bb]; exact harr
   have R2 := R1.apJ hb1 harr1 (off := 0) (cs := cs') (vs := arr.toList) h2 hone (by rw [hflat']; simp) (by omega) hex
   have hw : w.setRow (G1.bb b) ⟨arr.toList.take 0 ++ arr.toList ++ arr.toList.drop (0 + arr.toList.length)⟩ = w := by
    simp only [List.take_zero, List.nil_append, Nat.zero_add, List.drop_length, List.append_nil, Array.toArray_toList]
    exact setRow_self w _ arr t (0, 0) harr1
   rw [hw] at R2
   obtain ⟨G3, st3, bs, tr4, R3, g3, s3, hbl, hbs, h6⟩ := ahZ R2 h5
   have sm : TLe st1 (dV b 0 cs' st1) := ⟨fun l _ h2 => eV _ _ _ _ (fun o e => h2 b o e), fun r => .inl (eV _ _ _ _ (by simp)), fun b' o hb' => by
    rw [eD]; simp only; split
    ·simp
    ·exact hb'⟩
   refine ⟨G3, st3, ⟨t, cs'⟩ :: bs, tr4, R3, g1.trans g3, (s1.tle.trans sm).trans s3, by simp [hbl], fun j b' hj => ?_, h6⟩
   cases j with
   | zero =>
    obtain rfl : ⟨t, cs'⟩ = b' := by simpa using hj
    refine ⟨b, by simp, ⟨?_, ⟨arr, by rw [g3.bb]; exact harr1, by simp [hcl, hsz], g3.acr h2⟩, hone, hflat'⟩⟩
    rw [s3.oth _ (by simp) (by simp), eV _ _ _ _ (by simp), hb1, hcl]
   | succ j =>
    obtain ⟨o, ho, hB⟩ := hbs j b' (by simpa using hj)
    exact ⟨o, by simpa using ho, hB⟩
  ·exact (bX h).elim
theorem aip : ∀ {rl : List Nat} {c : List Rw → Pr} {st : Sto} {tr : Tr}, Rel X G st a w → prE Γ (ahD rl c) st tr = some po →
  ∃ st' rs tr', Rel X G st' a w ∧ rs.length = rl.length ∧ (∀ (j : Nat) (r : Rw), rs[j]? = some r → ∃ o, rl[j]? = some o ∧ st (.rw o) = .row r.ks r.e r.bytes r.xs false) ∧
   (∀ l, (∀ o ∈ rl, l ≠ .rw o) → st' l = st l) ∧ (∀ o ∈ rl, st' (.rw o) = .gone) ∧ prE Γ (c rs) st' tr' = some po
 | [], c, st, tr, R, h => ⟨st, [], tr, R, rfl, by simp, fun _ _ => rfl, by simp, h⟩
 | r :: rl, c, st, tr, R, h => by
  simp only [ahD, prE] at h
  split at h
  ·rename_i ks e by_ xs hr
   simp only [prE] at h
   obtain ⟨R1, _⟩ := R.amP hr ((Ext.refl w).but _)
   obtain ⟨st', rs, tr', R2, h1, h2, h3, h4, h5⟩ := aip R1 h
   refine ⟨st', ⟨ks, e, by_, xs⟩ :: rs, tr', R2, by simp [h1], fun j q hj => ?_, fun l hl => ?_, fun o ho => ?_, h5⟩
   ·cases j with
    | zero =>
     obtain rfl : (⟨ks, e, by_, xs⟩ : Rw) = q := by simpa using hj
     exact ⟨r, by simp, hr⟩
    | succ j =>
     obtain ⟨o, ho, hq⟩ := h2 j q (by simpa using hj)
     refine ⟨o, by simpa using ho, ?_⟩
     by_cases e' : Loc.rw r = .rw o
     ·rw [← e'] at hq; simp at hq
     ·rw [bH _ _ e'] at hq; exact hq
   ·rw [h3 l (fun o ho => hl o (by simp [ho])), bH _ _ (fun e => hl r (by simp) e.symm)]
   ·by_cases hm : o ∈ rl
    ·exact h4 o hm
    ·obtain rfl := (List.mem_cons.1 ho).resolve_right hm
     rw [h3 _ (fun o' ho' e => hm (by injection e with e; rw [e]; exact ho'))]
     simp
  ·exact (bX h).elim
end
end PX
set_option linter.unusedVariables false
set_option linter.unusedSimpArgs false
namespace PX
open Go
def ait (fb fr : Nat → Nat) : Loc → Loc
 | .bx b => .bx (fb b)
 | .rw r => .rw (fr r)
 | l => l
mutual
theorem aoT (fb fr : Nat → Nat) : ∀ (x : AV), (x.ren fb fr).refs = x.refs.map (ait fb fr)
 | .d _ => rfl
 | .dead => rfl
 | .undf => rfl
 | .anyb => rfl
 | .nil => rfl
 | .nilp => rfl
 | .nilf => rfl
 | .nili => rfl
 | .ptr _ _ => rfl
 | .ep _ _ _ => rfl
 | .rp _ _ _ => rfl
 | .row _ => rfl
 | .win _ _ _ => rfl
 | .agg cs => by simp only [AV.ren, AV.refs]; exact yY fb fr cs
 | .tup cs => by simp only [AV.ren, AV.refs]; exact yY fb fr cs
 | .fn f a c => by simp only [AV.ren, AV.refs, List.map_append, yY fb fr a, yY fb fr c]
 | .it _ => rfl
 | .ifc t v => by simp only [AV.ren, AV.refs]; exact aoT fb fr v
theorem yY (fb fr : Nat → Nat) : ∀ (xs : List AV), AV.refsL (AV.aeA fb fr xs) = (AV.refsL xs).map (ait fb fr)
 | [] => rfl
 | x :: xs => by simp only [AV.aeA, AV.refsL, List.map_append, aoT fb fr x, yY fb fr xs]
end
section
variable {P : Program} {E : Env} {Γ : Fun} {X : Ctx} {G : Gh} {st : Sto} {a : Act} {w : World} {tr : Tr} {po : PO}
theorem aDL (R : Rel X G st a w) {bl rl : List Nat} {bs : List Bx} {rs : List Rw} (hbl : bl.Nodup) (hrl : rl.Nodup) (hb : bs.length = bl.length) (hbs : ∀ (j : Nat) (b : Bx), bs[j]? = some b → ∃ o, bl[j]? = some o ∧ arO G st w o b)
  (hr : rs.length = rl.length) (hrs : ∀ (j : Nat) (r : Rw), rs[j]? = some r → ∃ o, rl[j]? = some o ∧ st (.rw o) = .row r.ks r.e r.bytes r.xs false)
  {F1 : Nat → Prop} (hF1 : ∀ k, F1 k → ∃ r, r ∉ rl ∧ blk G st (.rw r) = some k) {as : List AV} {vs : List Value} (hA : AVRs (G.kL F1) w as vs) (hrefs : ∀ l ∈ AV.refsL as, (∃ b ∈ bl, l = .bx b) ∨ (∃ r ∈ rl, l = .rw r)) :
  ∃ G0, Ent w G0 (AV.aeA (fun b => 2000000000 + idx b bl) (fun r => 2000000000 + idx r rl) as) bs rs vs ∧ (∀ k, G0.F k ↔ G.F k ∨ F1 k) ∧
   (∀ (j o : Nat), bl[j]? = some o → G0.bb (2000000000 + j) = G.bb o) ∧ (∀ (j o : Nat), rl[j]? = some o → G0.rv (2000000000 + j) = G.rv o) := by
 have hrow : ∀ (j o : Nat), rl[j]? = some o → ∃ r : Rw, rs[j]? = some r ∧ st (.rw o) = .row r.ks r.e r.bytes r.xs false := by
  intro j o ho
  have hlt : j < rs.length := by have := (List.getElem?_eq_some_iff.1 ho).1; omega
  obtain ⟨o', ho', h⟩ := hrs j rs[j] (List.getElem?_eq_getElem hlt)
  rw [ho] at ho'; obtain rfl := Option.some.inj ho'
  exact ⟨_, List.getElem?_eq_getElem hlt, h⟩
 have hok := avM hbl hrl
 have hcb : ∀ (j o : Nat), bl[j]? = some o → Cn.bx o (2000000000 + j) ∈ bxC 0 bl ++ rwC 0 rl := fun j o h => List.mem_append_left _ (acu.2 ⟨j, o, h, by simp⟩)
 have hcr : ∀ (j o : Nat), rl[j]? = some o → Cn.rw o (2000000000 + j) ∈ bxC 0 bl ++ rwC 0 rl := fun j o h => List.mem_append_right _ (acv.2 ⟨j, o, h, by simp⟩)
 have hold : ∀ x ∈ bxC 0 bl ++ rwC 0 rl, vB st x := by
  intro x hx
  rcases List.mem_append.1 hx with h | h
  ·obtain ⟨j, o, _, rfl⟩ := acu.1 h; trivial
  ·obtain ⟨j, o, ho, rfl⟩ := acv.1 h
   obtain ⟨r, _, h⟩ := hrow j o ho
   exact ⟨_, _, _, _, h⟩
 generalize hc : bxC 0 bl ++ rwC 0 rl = c at *
 have hnil : nils c = [] := by rw [← hc]; exact as5 bl rl
 have hnofz : ∀ o, Cn.fz o ∉ c := by
  intro o h
  rw [← hc] at h
  rcases List.mem_append.1 h with h | h
  ·obtain ⟨_, _, _, e⟩ := acu.1 h; cases e
  ·obtain ⟨_, _, _, e⟩ := acv.1 h; cases e
 generalize hS : inSto bs rs = S at *
 have look := fun l => (hS ▸ ads bs rs l : S l = .none ∨ (∃ (j : Nat) (r : Rw), rs[j]? = some r ∧ l = .rw (2000000000 + j) ∧ S l = .row r.ks r.e r.bytes r.xs false) ∨
  (∃ (j : Nat) (b : Bx), bs[j]? = some b ∧ l = .bx (2000000000 + j) ∧ S l = .bx b.t b.cells.length) ∨
  (∃ (j : Nat) (b : Bx) (i : Nat) (x : AV), bs[j]? = some b ∧ b.cells[i]? = some x ∧ l = .bc (2000000000 + j) i ∧ S l = .av x))
 have sat := Gh.ajX G (fun n => nK (S (.rw n))) hok (N := []) (by simp [hnil])
 have hrel := am6 (m := 0) (N := []) (lb' := fun k => (G.cut c [] fun n => nK (S (.rw n))).bb (2000000000 + k)) (S := S) (a' := act0) R hok (by simp [hnil]) (by simp) hold rfl rfl ?_ ?_ ?_ ?_ ?_ (fun _ _ _ _ => rfl) ?_
 ·generalize hG1 : (G.cut c [] fun n => nK (S (.rw n))) = G1 at *
  have hG1F : ∀ k, G1.F k ↔ G.F k := by
   intro k; subst hG1
   exact ⟨fun h => h.elim id (fun ⟨o, ho, _⟩ => absurd ho (hnofz o)), fun h => .inl h⟩
  have hG1rs : ∀ n, G1.rs n = nK (S (.rw n)) := by intro n; subst hG1; rfl
  have hblk : ∀ l k, blk G1 S l = some k → (∃ (j o : Nat), bl[j]? = some o ∧ blk G st (.bx o) = some k) ∨ (∃ (j o : Nat), rl[j]? = some o ∧ blk G st (.rw o) = some k) := by
   intro l k h
   cases l with
   | tm i => simp [blk] at h
   | bc i j => simp [blk] at h
   | bx n =>
    rcases look (.bx n) with q | ⟨_, _, _, q, _⟩ | ⟨j, b, q1, q2, q3⟩ | ⟨_, _, _, _, _, _, q, _⟩
    ·simp [blk, q] at h
    ·cases q
    ·injection q2 with q2; subst q2
     obtain ⟨o, ho, hB⟩ := hbs j b q1
     simp only [blk, q3, Option.some.injEq] at h
     exact .inl ⟨j, o, ho, by simp only [blk, hB.bx]; rw [← h, sat.bx o _ (hcb j o ho)]⟩
    ·cases q
   | rw n =>
    rcases look (.rw n) with q | ⟨j, r, q1, q2, q3⟩ | ⟨_, _, _, q, _⟩ | ⟨_, _, _, _, _, _, q, _⟩
    ·simp [blk, q] at h
    ·injection q2 with q2; subst q2
     obtain ⟨o, ho, hrr⟩ := hrs j r q1
     simp only [blk, q3] at h
     exact .inr ⟨j, o, ho, by simp only [blk, hrr]; rw [← h, sat.rw o _ (hcr j o ho)]⟩
    ·cases q
    ·cases q
   | it n =>
    rcases look (.it n) with q | ⟨_, _, _, q, _⟩ | ⟨_, _, _, q, _⟩ | ⟨_, _, _, _, _, _, q, _⟩
    ·simp [blk, q] at h
    ·cases q
    ·cases q
    ·cases q
  have h2 := hrel.kL (f := F1) (fun k hk => by
   obtain ⟨r, hr, hbk⟩ := hF1 k hk
   obtain ⟨_, o2, o3⟩ := R.own _ k hbk
   refine ⟨o2, .inr o3, fun l hl => ?_⟩
   rcases hblk l k hl with ⟨j, o, ho, h⟩ | ⟨j, o, ho, h⟩
   ·have := R.inj _ _ _ h hbk; cases this
   ·have := R.inj _ _ _ h hbk
    injection this with e; subst e
    exact hr (List.mem_of_getElem? ho))
  refine ⟨G1.kL F1, ⟨?_, ?_, ?_⟩, fun k => by simp only [Gh.kL, hG1F], fun j o ho => sat.bx o _ (hcb j o ho), fun j o ho => sat.rw o _ (hcr j o ho)⟩
  ·have : inSto bs rs = S := hS
   rw [this]
   refine ⟨⟨rfl, rfl, rfl, Nat.le_refl _, fun _ _ _ => rfl, fun k h => h, h2.base.Flt, fun k h => .inl h⟩, rfl, rfl, h2.tm, h2.bx, h2.bc, h2.rw, h2.it, h2.reg, h2.inj, fun l k hl => ?_, h2.rv1, fun _ _ _ _ => rfl⟩
   obtain ⟨o1, o2, _⟩ := h2.own l k hl
   exact ⟨o1, o2, .inr ⟨l, by rw [this]; exact hl⟩⟩
  ·refine hA.ren (fun k hk => ?_) (fun l hl => ?_)
   ·rcases hk with hk | hk
    ·exact .inl ((hG1F k).2 hk)
    ·exact .inr hk
   ·rcases hrefs l hl with ⟨b, hb', rfl⟩ | ⟨r, hr', rfl⟩
    ·exact sat.bx b _ (hcb _ _ (adM hb'))
    ·obtain ⟨q, hq1, hq2⟩ := hrow _ _ (adM hr')
     refine ⟨sat.rw r _ (hcr _ _ (adM hr')), ?_⟩
     have : (G1.kL F1).rs (2000000000 + idx r rl) = nK (S (.rw (2000000000 + idx r rl))) := hG1rs _
     rw [this, ← hS, apO bs rs hq1]
     exact (R.rw r _ _ _ _ _ hq2).1.symm
  ·intro l hl
   rw [yY] at hl
   obtain ⟨l0, hl0, rfl⟩ := List.mem_map.1 hl
   have e : inSto bs rs = S := hS
   rcases hrefs l0 hl0 with ⟨b, hb', rfl⟩ | ⟨r, hr', rfl⟩
   ·have hj : idx b bl < bs.length := by have := (List.getElem?_eq_some_iff.1 (adM hb')).1; omega
    simp only [ait]
    rw [aoV bs rs (List.getElem?_eq_getElem hj)]; simp
   ·obtain ⟨q, hq1, hq2⟩ := hrow _ _ (adM hr')
    simp only [ait]
    rw [apO bs rs hq1]; simp
 ·intro i v hv
  rcases look (.tm i) with q | ⟨_, _, _, q, _⟩ | ⟨_, _, _, q, _⟩ | ⟨_, _, _, _, _, _, q, _⟩
  ·rw [q] at hv; cases hv
  ·cases q
  ·cases q
  ·cases q
 ·intro n t k hv
  rcases look (.bx n) with q | ⟨_, _, _, q, _⟩ | ⟨j, b, q1, q2, q3⟩ | ⟨_, _, _, _, _, _, q, _⟩
  ·rw [q] at hv; cases hv
  ·cases q
  ·injection q2 with q2; subst q2
   rw [q3] at hv; injection hv with e1 e2; subst e1; subst e2
   obtain ⟨o, ho, hB⟩ := hbs j b q1
   exact ⟨o, hcb j o ho, hB.bx⟩
  ·cases q
 ·intro n i v hv
  rcases look (.bc n i) with q | ⟨_, _, _, q, _⟩ | ⟨_, _, _, q, _⟩ | ⟨j, b, i', x, q1, q2, q3, q4⟩
  ·rw [q] at hv; cases hv
  ·cases q
  ·cases q
  ·injection q3 with e1 e2; subst e1; subst e2
   rw [q4] at hv; injection hv with hv; subst hv
   obtain ⟨o, ho, hB⟩ := hbs j b q1
   obtain ⟨arr, m1, m2, m3⟩ := hB.mem
   obtain ⟨u, hu, hau⟩ := m3.get q2
   have hnr : x.refs = [] := by
    refine List.eq_nil_iff_forall_not_mem.2 (fun l hl => ?_)
    have := rD q2 hl
    rw [hB.flat] at this; cases this
   refine ⟨o, b.t, b.cells.length, arr, u, hcb j o ho, ?_, m1, by rw [Array.getElem?_toList] at hu; exact hu, Sat.yR hau hnr sat, (List.all_eq_true.1 hB.one) _ (List.mem_of_getElem? q2)⟩
   rw [← hS]; exact aoV bs rs q1
 ·intro n ks e b xs fz hv
  rcases look (.rw n) with q | ⟨j, r, q1, q2, q3⟩ | ⟨_, _, _, q, _⟩ | ⟨_, _, _, _, _, _, q, _⟩
  ·rw [q] at hv; cases hv
  ·injection q2 with q2; subst q2
   rw [q3] at hv
   injection hv with e1 e2 e3 e4 e5
   subst e1; subst e2; subst e3; subst e4; subst e5
   obtain ⟨o, ho, hrr⟩ := hrs j r q1
   exact ⟨rfl, .inl ⟨o, hcr j o ho, hrr⟩⟩
  ·cases q
  ·cases q
 ·intro n s p hv
  rcases look (.it n) with q | ⟨_, _, _, q, _⟩ | ⟨_, _, _, q, _⟩ | ⟨_, _, _, _, _, _, q, _⟩
  ·rw [q] at hv; cases hv
  ·cases q
  ·cases q
  ·cases q
 ·intro l v hv l' hl'
  rcases look l with q | ⟨j, r, q1, q2, q3⟩ | ⟨j, b, q1, q2, q3⟩ | ⟨j, b, i', x, q1, q2, q3, q4⟩
  ·rw [q] at hv; cases hv
  ·rw [q3] at hv; cases hv
  ·rw [q3] at hv; cases hv
  ·rw [q4] at hv; injection hv with hv; subst hv
   obtain ⟨o, ho, hB⟩ := hbs j b q1
   have := rD q2 hl'
   rw [hB.flat] at this; cases this
end
end PX
set_option linter.unusedVariables false
set_option linter.unusedSimpArgs false
namespace PX
open Go
section
variable {P : Program} {E : Env} {Γ : Fun} {X : Ctx} {G : Gh} {st : Sto} {a : Act} {w : World} {tr : Tr} {po : PO}
theorem Rel.axY (R : Rel X G st a w) {d : Nat} (hd : st (.bx d) = .none) (hlt9 : d < 1000000000) {g : Nat} {t : TypeId} {cs : List AV} {vs : List Value} (hh : w.heap[g]? = some (.cells ⟨vs⟩ t (0, 0)))
  (hg : ¬ G.F g ∧ g < w.heap.size ∧ (X.B ≤ g ∨ X.M g)) (hnotlive : ∀ l, blk G st l ≠ some g) (hv : AVRs G w cs vs) (h1 : cs.all AV.one = true) (hr : ∀ l ∈ AV.refsL cs, st l ≠ .none) :
  Rel X (G.j1 d g) (dV d 0 cs (st.upd (.bx d) (.bx t cs.length))) a w := by
 have R' := R
 have hag : ∀ l, st l ≠ .none → kX G (G.j1 d g) l := by
  intro l hl
  cases l <;> simp only [kX, Gh.j1]
  ·rename_i n
   have : n ≠ d := by rintro rfl; exact hl hd
   simp [this]
  ·simp
 have hs : uY G.F w w := fun _ _ => rfl
 have hA : ∀ {x : AV} {u : Value}, AVR G w x u → (∀ l ∈ x.refs, st l ≠ .none) → AVR (G.j1 d g) w x u := fun hx hr => AVR.mono (G := G) (G' := G.j1 d g) (fun _ h => h) (fun _ _ => rfl) hx (fun l hl => hag l (hr l hl))
 have hlk : ∀ l, (∀ o', l ≠ .bc d o') → l ≠ .bx d → dV d 0 cs (st.upd (.bx d) (.bx t cs.length)) l = st l := by
  intro l h2 h3
  rw [eV _ _ _ _ h2, bH _ _ (Ne.symm h3)]
 have hbd : dV d 0 cs (st.upd (.bx d) (.bx t cs.length)) (.bx d) = .bx t cs.length := by rw [eV _ _ _ _ (by simp)]; simp
 have hnew := hh
 have hblk : ∀ l k, blk (G.j1 d g) (dV d 0 cs (st.upd (.bx d) (.bx t cs.length))) l = some k → (blk G st l = some k ∧ l ≠ .bx d) ∨ (l = .bx d ∧ k = g) := by
  intro l k hl
  by_cases e' : l = .bx d
  ·subst e'; right; simp only [blk, hbd, Gh.j1, if_true, Option.some.injEq] at hl; exact ⟨rfl, hl.symm⟩
  ·left
   refine ⟨?_, e'⟩
   cases l <;> simp only [blk] at hl ⊢
   ·exact hl
   ·exact hl
   ·rename_i n
    rw [hlk _ (by simp) e'] at hl
    have : n ≠ d := by rintro rfl; exact e' rfl
    simp only [Gh.j1, this, if_false] at hl
    exact hl
   ·rw [hlk _ (by simp) (by simp)] at hl; exact hl
   ·rw [hlk _ (by simp) (by simp)] at hl; exact hl
 refine ⟨R'.base, R'.defers, R'.sz, ?_, ?_, ?_, ?_, ?_, ?_, ?_, ?_, R.rv1, fun k t n hb => by
  rw [eV _ _ _ _ (by simp), bH _ _ (by simp; omega)] at hb
  have hne : 2000000000 + k ≠ d := by omega
  simp only [Gh.j1, if_neg hne]
  exact R.lent k _ _ hb⟩
 ·intro i x hx
  rw [hlk _ (by simp) (by simp)] at hx
  obtain ⟨h2, h3⟩ := R'.tm i x hx
  exact ⟨h2, hA h3 (R.reg _ _ hx)⟩
 ·intro b t' n hb
  by_cases e : b = d
  ·subst e
   rw [hbd] at hb
   injection hb with e1 e2
   subst e1; subst e2
   exact ⟨_, by simp only [Gh.j1, if_true]; exact hnew, by simpa using hv.length.symm⟩
  ·rw [hlk _ (by simp) (by simp; exact e)] at hb
   obtain ⟨cs', h2, h3⟩ := R'.bx b t' n hb
   exact ⟨cs', by simpa [Gh.j1, e] using h2, h3⟩
 ·intro b o x hb
  by_cases e : b = d
  ·subst e
   rw [eD] at hb
   simp only at hb
   split at hb
   ·rename_i hlt
    injection hb with hb
    subst hb
    have hlt' : o < cs.length := by have := hlt.2.2; omega
    have hget : cs[o]? = some (cs.getD (o - 0) .dead) := by simp [List.getD_eq_getElem?_getD, List.getElem?_eq_getElem hlt']
    obtain ⟨u, hu, hau⟩ := hv.get hget
    refine ⟨t, cs.length, ⟨vs⟩, u, hbd, by simp only [Gh.j1, if_true]; exact hnew, by simpa using hu, ?_, ?_⟩
    ·have hregx : ∀ l ∈ (cs.getD (o - 0) AV.dead).refs, st l ≠ .none := fun l hl => hr l (yS hl (List.mem_of_getElem? hget))
     exact hA (hau.mono (fun _ h => h) hs (fun l _ => by cases l <;> simp [kX])) hregx
    ·exact (List.all_eq_true.1 h1) _ (List.mem_of_getElem? hget)
   ·rw [bH _ _ (by simp)] at hb
    obtain ⟨t', n, _, _, h2, _⟩ := R.bc b o x hb
    rw [hd] at h2; cases h2
  ·rw [hlk _ (by simp; exact fun h => absurd h e) (by simp)] at hb
   obtain ⟨t', n, cs', u, h2, h3, h4, h5, h6⟩ := R'.bc b o x hb
   exact ⟨t', n, cs', u, by rw [hlk _ (by simp) (by simp; exact e)]; exact h2, by simpa [Gh.j1, e] using h3, h4, hA h5 (R.reg _ _ hb), h6⟩
 ·intro r ks e by_ xs fz hb
  rw [hlk _ (by simp) (by simp)] at hb
  exact R'.rw r ks e by_ xs fz hb
 ·intro i s p hb
  rw [hlk _ (by simp) (by simp)] at hb
  exact R'.it i s p hb
 ·intro l x hl l' hl'
  have key : st l' ≠ .none → dV d 0 cs (st.upd (.bx d) (.bx t cs.length)) l' ≠ .none := by
   intro hn
   cases l' with
   | bc b o =>
    rw [eD]
    simp only
    split
    ·simp
    ·rw [bH _ _ (by simp)]; exact hn
   | bx n =>
    by_cases e : n = d
    ·subst e; rw [hbd]; simp
    ·rw [hlk _ (by simp) (by simp; exact e)]; exact hn
   | tm i => rw [hlk _ (by simp) (by simp)]; exact hn
   | rw i => rw [hlk _ (by simp) (by simp)]; exact hn
   | it i => rw [hlk _ (by simp) (by simp)]; exact hn
  by_cases hbcd : ∃ o, l = .bc d o ∧ o < cs.length
  ·obtain ⟨o, rfl, ho⟩ := hbcd
   rw [eD] at hl
   simp only [true_and, Nat.zero_le, Nat.zero_add, ho, if_true, Nat.sub_zero, LV.av.injEq] at hl
   subst hl
   apply key
   have hget : cs[o]? = some (cs.getD o .dead) := by simp [List.getD_eq_getElem?_getD, List.getElem?_eq_getElem ho]
   exact hr l' (yS hl' (List.mem_of_getElem? hget))
  ·apply key
   have hl2 : st l = .av x := by
    rw [eD] at hl
    cases l with
    | bc b' o' =>
     simp only at hl
     split at hl
     ·rename_i hh; exact absurd ⟨o', by rw [hh.1], by omega⟩ hbcd
     ·rw [bH _ _ (by simp)] at hl; exact hl
    | bx n =>
     simp only at hl
     by_cases e : n = d
     ·subst e; simp at hl
     ·rw [bH _ _ (by simp; exact fun h => e h.symm)] at hl; exact hl
    | _ => simp only at hl; rw [bH _ _ (by simp)] at hl; exact hl
   exact R.reg l x hl2 l' hl'
 ·intro l l' k h2 h3
  rcases hblk l k h2 with ⟨h4, _⟩ | ⟨rfl, h4⟩ <;> rcases hblk l' k h3 with ⟨h5, _⟩ | ⟨rfl, h5⟩
  ·exact R.inj l l' k h4 h5
  ·subst h5; exact absurd h4 (hnotlive l)
  ·subst h4; exact absurd h5 (hnotlive l')
  ·rfl
 ·intro l k h2
  rcases hblk l k h2 with ⟨h4, _⟩ | ⟨rfl, h4⟩
  ·exact R'.own l k h4
  ·subst h4
   exact hg
theorem Rel.called (R : Rel X G st a w) {w' : World} {Fs D : Nat → Prop} {bl : List Nat} {S : Sto} (hos : w'.os = w.os) (htape : w'.tape = w.tape) (hout : w'.output = w.output) (hsz : w.heap.size ≤ w'.heap.size)
  (hkeep : ∀ k, k < w.heap.size → (∀ b ∈ bl, G.bb b ≠ k) → ¬ D k → w'.heap[k]? = w.heap[k]?)
  (hD : ∀ k, D k → (X.B ≤ k ∨ X.M k) ∧ ¬ G.F k ∧ ∀ l, blk G st l ≠ some k)
  (hF1 : ∀ k, G.F k → Fs k) (hF2 : ∀ k, Fs k → k < w'.heap.size ∧ (X.F0 k ∨ X.B ≤ k ∨ X.M k)) (hF3 : ∀ l k, blk G st l = some k → ¬ Fs k)
  (hbl : ∀ b ∈ bl, ∃ t n, st (.bx b) = .bx t n)
  (hS : ∀ l, (∀ b ∈ bl, ∀ i, l ≠ .bc b i) → S l = st l) (hSn : ∀ b ∈ bl, ∀ i, st (.bc b i) ≠ .none → S (.bc b i) ≠ .none)
  (hnb : ∀ b ∈ bl, ∀ t n, st (.bx b) = .bx t n → ∃ arr : Array Value, w'.heap[G.bb b]? = some (.cells arr t (0, 0)) ∧ arr.size = n)
  (hnc : ∀ b ∈ bl, ∀ i x, S (.bc b i) = .av x → ∃ (t n : Nat) (arr : Array Value) (u : Value), st (.bx b) = .bx t n ∧ w'.heap[G.bb b]? = some (.cells arr t (0, 0)) ∧ arr[i]? = some u ∧ AVR (G.sL Fs) w' x u ∧ x.one = true ∧ x.refs = []) :
  Rel X (G.sL Fs) S a w' := by
 have hlive : ∀ b ∈ bl, blk G st (.bx b) = some (G.bb b) := by
  intro b hb
  obtain ⟨t, n, h⟩ := hbl b hb
  simp [blk, h]
 have hs : uY G.F w w' := by
  intro k hk
  exact hkeep k (R.base.Flt k hk) (fun b hb e => (R.own _ _ (hlive b hb)).1 (e ▸ hk)) (fun hd => (hD k hd).2.1 hk)
 have hnew : ∀ l k, blk G st l = some k → (∀ b ∈ bl, l ≠ .bx b) → w'.heap[k]? = w.heap[k]? := by
  intro l k hl hne
  exact hkeep k (R.own _ _ hl).2.1 (fun b hb e => hne b hb (R.inj _ _ _ hl (e ▸ hlive b hb))) (fun hd => (hD k hd).2.2 l hl)
 have hA : ∀ {x : AV} {u : Value}, AVR G w x u → AVR (G.sL Fs) w' x u := fun hx => AVR.mono (G := G) (G' := G.sL Fs) hF1 hs hx (fun l _ => by cases l <;> simp [kX, Gh.sL])
 have hSb : ∀ n, S (.bx n) = st (.bx n) := fun n => hS _ (fun _ _ _ => by simp)
 have hSr : ∀ n, S (.rw n) = st (.rw n) := fun n => hS _ (fun _ _ _ => by simp)
 have hSi : ∀ n, S (.it n) = st (.it n) := fun n => hS _ (fun _ _ _ => by simp)
 have hSt : ∀ n, S (.tm n) = st (.tm n) := fun n => hS _ (fun _ _ _ => by simp)
 have hblk : ∀ l, blk (G.sL Fs) S l = blk G st l := by
  intro l
  cases l <;> simp only [blk, hSb, hSr, hSi, Gh.sL]
 have hSnone : ∀ l, st l ≠ .none → S l ≠ .none := by
  intro l hl
  by_cases hb : ∃ b ∈ bl, ∃ i, l = .bc b i
  ·obtain ⟨b, hb, i, rfl⟩ := hb
   exact hSn b hb i hl
  ·rw [hS l (fun b hb' i e => hb ⟨b, hb', i, e⟩)]; exact hl
 refine ⟨⟨hos.trans R.base.os, htape.trans R.base.tape, hout.trans R.base.output, Nat.le_trans R.base.size hsz, fun k hk hm => ?_, fun k hk => hF1 k (R.base.F0 k hk), fun k hk => (hF2 k hk).1, fun k hk => (hF2 k hk).2⟩, R.defers, R.sz, ?_, ?_, ?_, ?_, ?_, ?_, ?_, ?_, R.rv1, ?_⟩
 ·rw [hkeep k (Nat.lt_of_lt_of_le hk R.base.size) (fun b hb e => ?_) (fun hd => ?_), R.base.keep k hk hm]
  ·rcases (R.own _ _ (hlive b hb)).2.2 with h | h
   ·omega
   ·exact hm (e ▸ h)
  ·rcases (hD k hd).1 with h | h
   ·omega
   ·exact hm h
 ·intro i v hv
  rw [hSt] at hv
  obtain ⟨h1, h2⟩ := R.tm i v hv
  exact ⟨h1, hA h2⟩
 ·intro b t n hb
  rw [hSb] at hb
  by_cases hm : b ∈ bl
  ·exact hnb b hm t n hb
  ·obtain ⟨cs, h1, h2⟩ := R.bx b t n hb
   refine ⟨cs, ?_, h2⟩
   show w'.heap[G.bb b]? = _
   rw [hnew (.bx b) (G.bb b) (by simp [blk, hb]) (fun b' hb' e => hm (by injection e with e; rw [e]; exact hb'))]; exact h1
 ·intro b o v hb
  by_cases hm : b ∈ bl
  ·obtain ⟨t, n, arr, u, h1, h2, h3, h4, h5, _⟩ := hnc b hm o v hb
   exact ⟨t, n, arr, u, by rw [hSb]; exact h1, h2, h3, h4, h5⟩
  ·rw [hS _ (fun b' hb' i e => hm (by injection e with e; rw [e]; exact hb'))] at hb
   obtain ⟨t, n, cs, u, h1, h2, h3, h4, h5⟩ := R.bc b o v hb
   refine ⟨t, n, cs, u, by rw [hSb]; exact h1, ?_, h3, hA h4, h5⟩
   show w'.heap[G.bb b]? = _
   rw [hnew (.bx b) (G.bb b) (by simp [blk, h1]) (fun b' hb' e => hm (by injection e with e; rw [e]; exact hb'))]; exact h2
 ·intro r ks e by_ xs fz hr
  rw [hSr] at hr
  obtain ⟨h1, h2, h3, h4, h5⟩ := R.rw r _ _ _ _ _ hr
  refine ⟨h1, h2, h3, h4.mono hF1 hs (fun g hg => ?_), fun h g hg => hF1 g (h5 h g hg)⟩
  cases fz with
  | true => exact hs g (h5 rfl g hg)
  | false => exact hnew (.rw r) g (by simp [blk, hr, hg]) (fun _ _ => by simp)
 ·intro i s p hi
  rw [hSi] at hi
  show w'.heap[G.ib i]? = _
  rw [hnew (.it i) (G.ib i) (by simp [blk, hi]) (fun _ _ => by simp)]
  exact R.it i s p hi
 ·intro l v hl l' hl'
  by_cases hb : ∃ b ∈ bl, ∃ i, l = .bc b i
  ·obtain ⟨b, hb, i, rfl⟩ := hb
   obtain ⟨_, _, _, _, _, _, _, _, _, h6⟩ := hnc b hb i v hl
   rw [h6] at hl'; cases hl'
  ·rw [hS l (fun b hb' i e => hb ⟨b, hb', i, e⟩)] at hl
   exact hSnone l' (R.reg l v hl l' hl')
 ·intro l l' k h1 h2
  rw [hblk] at h1 h2
  exact R.inj l l' k h1 h2
 ·intro l k h1
  rw [hblk] at h1
  obtain ⟨_, h3, h4⟩ := R.own l k h1
  exact ⟨hF3 l k h1, Nat.lt_of_lt_of_le h3 hsz, h4⟩
 ·intro k t n hb
  rw [hSb] at hb
  exact R.lent k t n hb
end
end PX
set_option linter.unusedVariables false
set_option linter.unusedSimpArgs false
namespace PX
open Go
section
variable {P : Program} {E : Env} {Γ : Fun} {X : Ctx} {G : Gh} {st : Sto} {a : Act} {w : World} {tr : Tr} {po : PO}
theorem ahT : ∀ {bl : List Nat} {xs : List Bx} {c : Pr} {st : Sto} {tr : Tr}, bl.Nodup → prE Γ (aaN bl xs c) st tr = some po →
  ∃ S tr', (∀ (j b : Nat), bl[j]? = some b → ∃ x, xs[j]? = some x ∧ st (.bx b) = .bx x.t x.cells.length ∧ ∀ (i : Nat) (v : AV), i < x.cells.length → S (.bc b i) = .av v → x.cells[i]? = some v) ∧
   (∀ l, (∀ b ∈ bl, ∀ i, l ≠ .bc b i) → S l = st l) ∧ (∀ b ∈ bl, ∀ i, st (.bc b i) ≠ .none → S (.bc b i) ≠ .none) ∧
   (∀ b ∈ bl, ∀ i v, S (.bc b i) = .av v → ∃ v', st (.bc b i) = .av v') ∧ prE Γ c S tr' = some po
 | [], xs, c, st, tr, hn, h => ⟨st, tr, by simp, fun _ _ => rfl, by simp, by simp, by simpa [aaN] using h⟩
 | b :: bl, [], c, st, tr, hn, h => by simp [aaN, prE] at h
 | b :: bl, x :: xs, c, st, tr, hn, h => by
  simp only [aaN, prE] at h
  split at h
  ·rename_i t n hb
   obtain ⟨hc, h1⟩ := dF h
   simp only [Bool.and_eq_true] at hc
   have e1 := Nat.eq_of_beq_eq_true hc.1
   have e2 := Nat.eq_of_beq_eq_true hc.2
   obtain ⟨tr1, hex, h2⟩ := abP h1
   obtain ⟨hnb, hnd⟩ := List.nodup_cons.1 hn
   obtain ⟨S, tr2, q1, q2, q3, q4, q5⟩ := ahT hnd h2
   have hbS : ∀ i, S (.bc b i) = dV b 0 x.cells st (.bc b i) := fun i => q2 _ (fun b' hb' i' e => hnb (by injection e with e; rw [e]; exact hb'))
   have hsame : ∀ l, (∀ i, l ≠ .bc b i) → dV b 0 x.cells st l = st l := fun l hl => eV _ _ _ _ hl
   refine ⟨S, tr2, fun j b' hj => ?_, fun l hl => ?_, fun b' hb' i hi => ?_, fun b' hb' i v hv => ?_, h2' q5⟩
   ·cases j with
    | zero =>
     obtain rfl : b = b' := by simpa using hj
     refine ⟨x, by simp, by rw [hb, e1, e2], fun i v hi hv => ?_⟩
     rw [hbS, eD] at hv
     simp only [true_and, Nat.zero_le, Nat.zero_add, hi, if_true, Nat.sub_zero, LV.av.injEq] at hv
     rw [← hv]
     simp [List.getD_eq_getElem?_getD, List.getElem?_eq_getElem hi]
    | succ j =>
     obtain ⟨x', h3, h4, h5⟩ := q1 j b' (by simpa using hj)
     exact ⟨x', by simpa using h3, by rw [hsame _ (by simp)] at h4; exact h4, h5⟩
   ·rw [q2 l (fun b' hb' => hl b' (by simp [hb'])), hsame l (hl b (by simp))]
   ·rcases List.mem_cons.1 hb' with rfl | hm
    ·rw [hbS, eD]
     simp only
     split
     ·simp
     ·exact hi
    ·refine q3 b' hm i ?_
     rw [hsame _ (fun i' e => hnb (by injection e with e; rw [← e]; exact hm))]
     exact hi
   ·rcases List.mem_cons.1 hb' with rfl | hm
    ·rw [hbS, eD] at hv
     simp only at hv
     split at hv
     ·rename_i hh
      obtain ⟨y, hy⟩ := hex i (by omega)
      rw [Nat.zero_add] at hy
      exact ⟨y, hy⟩
     ·exact ⟨v, hv⟩
    ·have := q4 b' hm i v hv
     rw [hsame _ (fun i' e => hnb (by injection e with e; rw [← e]; exact hm))] at this
     exact this
  ·exact (bX h).elim
where h2' {p : Prop} (h : p) : p := h
structure aFT (X : Ctx) (G : Gh) (st : Sto) (w : World) (b : Bx) (g : Nat) : Prop where
 mem : ∃ vs : List Value, w.heap[g]? = some (.cells ⟨vs⟩ b.t (0, 0)) ∧ AVRs G w b.cells vs
 own : ¬ G.F g ∧ g < w.heap.size ∧ (X.B ≤ g ∨ X.M g)
 live : ∀ l, blk G st l ≠ some g
 one : b.cells.all AV.one = true
 flat : AV.refsL b.cells = []
theorem ajp : ∀ {bs : List Bx} {base : Nat} {c : Pr} {G : Gh} {st : Sto} {tr : Tr} (gb : Nat → Nat), Rel X G st a w → prE Γ (aeC base bs c) st tr = some po →
  (∀ (j : Nat) (b : Bx), bs[j]? = some b → aFT X G st w b (gb j)) → (∀ i j, i < bs.length → j < bs.length → gb i = gb j → i = j) →
  ∃ G' S tr', Rel X G' S a w ∧ G'.F = G.F ∧ G'.rv = G.rv ∧ G'.rs = G.rs ∧ G'.ib = G.ib ∧ (∀ n, st (.bx n) ≠ .none → G'.bb n = G.bb n) ∧ (∀ j, j < bs.length → G'.bb (base + j) = gb j) ∧
   (∀ l, st l ≠ .none → S l ≠ .none) ∧ (∀ j, j < bs.length → S (.bx (base + j)) ≠ .none) ∧ (∀ l, (∀ n, l ≠ .bx n) → (∀ n i, l ≠ .bc n i) → S l = st l) ∧
   (∀ l k, blk G' S l = some k → blk G st l = some k ∨ ∃ j, j < bs.length ∧ k = gb j) ∧ prE Γ c S tr' = some po
 | [], base, c, G, st, tr, gb, R, h, hN, hinj => ⟨G, st, tr, R, rfl, rfl, rfl, rfl, fun _ _ => rfl, by simp, fun _ h => h, by simp, fun _ _ _ => rfl, fun l k h => .inl h, h⟩
 | b :: bs, base, c, G, st, tr, gb, R, h, hN, hinj => by
  obtain ⟨hf, hlt, tr1, h1⟩ := agV (show prE Γ (ac0 base (.put (.bx base) (.bx b.t b.cells.length) (yF base 0 b.cells (aeC (base + 1) bs c)))) st tr = some po from h)
  simp only [prE] at h1
  obtain ⟨tr2, h2⟩ := abz (Γ := Γ) base 0 b.cells (aeC (base + 1) bs c) (st.upd (.bx base) (.bx b.t b.cells.length)) (tr1.1, .bx base :: tr1.2)
  rw [h2] at h1
  have n0 := hN 0 b (by simp)
  obtain ⟨vs, hm, hv⟩ := n0.mem
  have R1 := R.axY hf hlt (t := b.t) hm n0.own n0.live hv n0.one (by rw [n0.flat]; simp)
  have hS1 : ∀ l, l ≠ .bx base → (∀ i, l ≠ .bc base i) → dV base 0 b.cells (st.upd (.bx base) (.bx b.t b.cells.length)) l = st l := by
   intro l h3 h4
   rw [eV _ _ _ _ h4, bH _ _ (Ne.symm h3)]
  have hbase : dV base 0 b.cells (st.upd (.bx base) (.bx b.t b.cells.length)) (.bx base) = .bx b.t b.cells.length := by
   rw [eV _ _ _ _ (by simp)]; simp
  have hblk1 : ∀ l k, blk (G.j1 base (gb 0)) (dV base 0 b.cells (st.upd (.bx base) (.bx b.t b.cells.length))) l = some k → blk G st l = some k ∨ k = gb 0 := by
   intro l k hl
   by_cases e : l = .bx base
   ·subst e
    simp only [blk, hbase, Gh.j1, if_true, Option.some.injEq] at hl
    exact .inr hl.symm
   ·left
    cases l <;> simp only [blk] at hl ⊢
    ·exact hl
    ·exact hl
    ·rename_i n
     rw [hS1 _ e (by simp)] at hl
     have : n ≠ base := by rintro rfl; exact e rfl
     simp only [Gh.j1, this, if_false] at hl
     exact hl
    ·rw [hS1 _ (by simp) (by simp)] at hl; exact hl
    ·rw [hS1 _ (by simp) (by simp)] at hl; exact hl
  obtain ⟨G', S, tr3, q1, q2, q3, q4, q5, q6, q7, q8, q9, q10, q11, q12⟩ := ajp (bs := bs) (base := base + 1) (fun j => gb (j + 1)) R1 h1 (fun j b' hj => by
   have nj := hN (j + 1) b' (by simpa using hj)
   obtain ⟨vs', hm', hv'⟩ := nj.mem
   refine ⟨⟨vs', hm', ?_⟩, nj.own, fun l hl => ?_, nj.one, nj.flat⟩
   ·exact AVRs.mono (G := G) (G' := G.j1 base (gb 0)) (fun _ h => h) (fun _ _ => rfl) hv' (fun l hl => by rw [nj.flat] at hl; cases hl)
   ·rcases hblk1 l _ hl with h3 | h3
    ·exact nj.live l h3
    ·have hjl : j < bs.length := (List.getElem?_eq_some_iff.1 hj).1
     have := hinj (j + 1) 0 (by simp; omega) (by simp) h3
     omega) (fun i j hi hj e => by
   have := hinj (i + 1) (j + 1) (by simp; omega) (by simp; omega) e
   omega)
  have hne1 : ∀ l, st l ≠ .none → dV base 0 b.cells (st.upd (.bx base) (.bx b.t b.cells.length)) l ≠ .none := by
   intro l hl
   by_cases e : l = .bx base
   ·subst e; rw [hbase]; simp
   ·by_cases e2 : ∃ i, l = .bc base i
    ·obtain ⟨i, rfl⟩ := e2
     rw [eD]
     simp only
     split
     ·simp
     ·rw [bH _ _ (by simp)]; exact hl
    ·rw [hS1 l e (fun i e3 => e2 ⟨i, e3⟩)]; exact hl
  refine ⟨G', S, tr3, q1, q2, q3, q4, q5, fun n hn => ?_, fun j hj => ?_, fun l hl => q8 l (hne1 l hl), fun j hj => ?_, fun l h3 h4 => ?_, fun l k hl => ?_, q12⟩
  ·rw [q6 n (hne1 _ hn)]
   have : n ≠ base := by rintro rfl; exact hn hf
   simp [Gh.j1, this]
  ·cases j with
   | zero =>
    rw [Nat.add_zero, q6 base (by rw [hbase]; simp)]
    simp [Gh.j1]
   | succ j =>
    rw [show base + (j + 1) = base + 1 + j by omega]
    exact q7 j (by simp at hj; omega)
  ·cases j with
   | zero => exact q8 _ (by rw [Nat.add_zero, hbase]; simp)
   | succ j =>
    rw [show base + (j + 1) = base + 1 + j by omega]
    exact q9 j (by simp at hj; omega)
  ·rw [q10 l h3 h4, hS1 l (h3 base) (h4 base)]
  ·rcases q11 l k hl with h3 | ⟨j, hj, e⟩
   ·rcases hblk1 l k h3 with h4 | h4
    ·exact .inl h4
    ·exact .inr ⟨0, by simp, h4⟩
   ·exact .inr ⟨j + 1, by simp; omega, e⟩
structure aHO (X : Ctx) (G : Gh) (st : Sto) (w : World) (r : Rw) (v : Value) : Prop where
 data : r.ks.all CK.isData = true
 pos : 0 < r.ks.length
 val : RowV G.F w r.ks r.e r.xs v
 own : ∀ g, rowBlk v = some g → ¬ G.F g ∧ g < w.heap.size ∧ (X.B ≤ g ∨ X.M g) ∧ ∀ l, blk G st l ≠ some g
theorem akc : ∀ {rs : List Rw} {base : Nat} {c : Pr} {G : Gh} {st : Sto} {tr : Tr} (gv : Nat → Value), Rel X G st a w → prE Γ (ajR base rs c) st tr = some po →
  (∀ (j : Nat) (r : Rw), rs[j]? = some r → aHO X G st w r (gv j)) → (∀ i j g, i < rs.length → j < rs.length → rowBlk (gv i) = some g → rowBlk (gv j) = some g → i = j) →
  ∃ G' S tr', Rel X G' S a w ∧ G'.F = G.F ∧ G'.bb = G.bb ∧ G'.ib = G.ib ∧ (∀ (j : Nat) (r : Rw), rs[j]? = some r → G'.rv (base + j) = gv j ∧ G'.rs (base + j) = r.ks.length) ∧
   (∀ l, st l ≠ .none → S l ≠ .none ∧ kX G G' l) ∧ (∀ j, j < rs.length → S (.rw (base + j)) ≠ .none) ∧ prE Γ c S tr' = some po
 | [], base, c, G, st, tr, gv, R, h, hN, hinj => ⟨G, st, tr, R, rfl, rfl, rfl, by simp, fun l h => ⟨h, by cases l <;> simp [kX]⟩, by simp, h⟩
 | r :: rs, base, c, G, st, tr, gv, R, h, hN, hinj => by
  obtain ⟨hf, tr1, h1⟩ := acT (show prE Γ (fresh (.rw base) (.put (.rw base) (.row r.ks r.e r.bytes r.xs false) (ajR (base + 1) rs c))) st tr = some po from h)
  simp only [prE] at h1
  have n0 := hN 0 r (by simp)
  have R1 := R.amp hf (by_ := r.bytes) n0.data n0.pos n0.val n0.own
  have hblk1 : ∀ l k, blk (G.nV base (gv 0) r.ks.length) (st.upd (.rw base) (.row r.ks r.e r.bytes r.xs false)) l = some k → blk G st l = some k ∨ rowBlk (gv 0) = some k := by
   intro l k hl
   by_cases e' : l = .rw base
   ·subst e'; right; simp [blk, Gh.nV] at hl; exact hl
   ·left
    cases l <;> simp only [blk] at hl ⊢
    ·exact hl
    ·exact hl
    ·rw [bH _ _ (by simp)] at hl; exact hl
    ·rename_i n
     rw [bH _ _ (Ne.symm e')] at hl
     have : n ≠ base := by rintro rfl; exact e' rfl
     simp only [Gh.nV, this, if_false] at hl
     exact hl
    ·rw [bH _ _ (by simp)] at hl; exact hl
  obtain ⟨G', S, tr3, q1, q2, q3, q4, q5, q6, q7, q8⟩ := akc (rs := rs) (base := base + 1) (fun j => gv (j + 1)) R1 h1 (fun j r' hj => by
   have nj := hN (j + 1) r' (by simpa using hj)
   refine ⟨nj.data, nj.pos, nj.val, fun g hg => ?_⟩
   obtain ⟨o1, o2, o3, o4⟩ := nj.own g hg
   refine ⟨o1, o2, o3, fun l hl => ?_⟩
   rcases hblk1 l g hl with h3 | h3
   ·exact o4 l h3
   ·have hjl : j < rs.length := (List.getElem?_eq_some_iff.1 hj).1
    have := hinj (j + 1) 0 g (by simp; omega) (by simp) hg h3
    omega) (fun i j g hi hj h3 h4 => by
   have := hinj (i + 1) (j + 1) g (by simp; omega) (by simp; omega) h3 h4
   omega)
  refine ⟨G', S, tr3, q1, q2, q3, q4, fun j r' hj => ?_, fun l hl => ?_, fun j hj => ?_, q8⟩
  ·cases j with
   | zero =>
    obtain rfl : r = r' := by simpa using hj
    obtain ⟨_, h3⟩ := q6 (.rw base) (by simp)
    simp only [kX, Gh.nV, if_true] at h3
    exact h3
   | succ j =>
    rw [show base + (j + 1) = base + 1 + j by omega]
    exact q5 j r' (by simpa using hj)
  ·have hl1 : (st.upd (.rw base) (.row r.ks r.e r.bytes r.xs false)) l ≠ .none := by
    by_cases e : Loc.rw base = l
    ·subst e; simp
    ·rw [bH _ _ e]; exact hl
   obtain ⟨h3, h4⟩ := q6 l hl1
   refine ⟨h3, ?_⟩
   cases l <;> simp only [kX] at h4 ⊢
   ·exact h4
   ·rename_i n
    have : n ≠ base := by rintro rfl; exact hl hf
    simp only [Gh.nV, this, if_false] at h4
    exact h4
   ·exact h4
  ·cases j with
   | zero => exact (q6 (.rw base) (by simp)).1
   | succ j =>
    rw [show base + (j + 1) = base + 1 + j by omega]
    exact q7 j (by simp at hj; omega)
end
end PX
