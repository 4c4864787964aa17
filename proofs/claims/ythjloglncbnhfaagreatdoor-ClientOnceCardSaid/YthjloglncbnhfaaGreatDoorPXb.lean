/- An evaluator of the program's Lean form that knows no memory, and the proof that what it tells of a call holds of that call: no statement of the program by itself; conditions: none beyond each theorem's own. -/
import Derived.Test.YthjloglncbnhfaaGreatDoorPXa
import Derived.Laws.MakeOwn
import Derived.LoopN
import Derived.Tactics
set_option linter.unusedVariables false
set_option linter.unusedSimpArgs false
set_option linter.unusedVariables false
set_option linter.unusedSimpArgs false
namespace PX
open Go
section
variable {P : Program} {E : Env} {Γ : Fun} {X : Ctx} {G : Gh} {st : Sto} {a : Act} {w : World} {tr : Tr} {po : PO}
 {next : Act → World → Prop} {Q : Exit → Act → World → Prop} {o : Oper}
def Flat (F : Nat → Prop) (w : World) (ks : List CK) (xs : List (List D)) (cs : List Value) : Prop :=
 (∀ el ∈ xs, el.length = ks.length) ∧ ∀ j el i d k, xs[j]? = some el → el[i]? = some d → ks[i]? = some k → ∃ u, cs[j * ks.length + i]? = some u ∧ DR F w k d u
theorem Flat.mono {F F' : Nat → Prop} {w w' : World} {ks xs cs} (h : Flat F w ks xs cs) (hF : ∀ k, F k → F' k) (hw : lW F w w') : Flat F' w' ks xs cs :=
 ⟨h.1, fun j el i d k h1 h2 h3 => by obtain ⟨u, hu, hd⟩ := h.2 j el i d k h1 h2 h3; exact ⟨u, hu, hd.mono hF hw⟩⟩
theorem ah0 {ks : List CK} {xs : List (List D)} {q : Nat} (hl : ∀ el ∈ xs, el.length = ks.length) (h0 : 0 < ks.length) (hq : q < xs.length * ks.length) :
  ∃ el d k, xs[q / ks.length]? = some el ∧ el[q % ks.length]? = some d ∧ ks[q % ks.length]? = some k ∧ q / ks.length * ks.length + q % ks.length = q := by
 have h1 : q / ks.length < xs.length := (Nat.div_lt_iff_lt_mul h0).2 hq
 have h2 : q % ks.length < ks.length := Nat.mod_lt _ h0
 have h3 := List.getElem?_eq_getElem h1
 have h4 := hl _ (List.mem_of_getElem? h3)
 exact ⟨_, _, _, h3, List.getElem?_eq_getElem (by omega), List.getElem?_eq_getElem h2, Nat.div_add_mod' q ks.length⟩
theorem Flat.one {F : Nat → Prop} {ks xs cs} (h : Flat F w ks xs cs) (h0 : 0 < ks.length) (hl : cs.length = xs.length * ks.length) : ∀ u ∈ cs, u.oneCell' = true := by
 intro u hu
 obtain ⟨q, hq, rfl⟩ := List.getElem_of_mem hu
 obtain ⟨el, d, k, h1, h2, h3, h4⟩ := ah0 h.1 h0 (q := q) (by omega)
 obtain ⟨u, h5, h6⟩ := h.2 _ _ _ _ _ h1 h2 h3
 rw [h4, List.getElem?_eq_getElem hq] at h5
 injection h5 with h5
 rw [h5]; exact h6.qI
theorem Flat.append {F : Nat → Prop} {ks xs ys cs ds} (h : Flat F w ks xs cs) (k : Flat F w ks ys ds) (hl : cs.length = xs.length * ks.length) : Flat F w ks (xs ++ ys) (cs ++ ds) := by
 refine ⟨fun el hel => ?_, fun j el i d kk h1 h2 h3 => ?_⟩
 ·rcases List.mem_append.1 hel with hel | hel
  ·exact h.1 el hel
  ·exact k.1 el hel
 ·by_cases hj : j < xs.length
  ·rw [List.getElem?_append_left hj] at h1
   obtain ⟨u, hu, hd⟩ := h.2 j el i d kk h1 h2 h3
   have : j * ks.length + i < cs.length := (List.getElem?_eq_some_iff.1 hu).1
   exact ⟨u, by rw [List.getElem?_append_left this]; exact hu, hd⟩
  ·rw [List.getElem?_append_right (by omega)] at h1
   obtain ⟨u, hu, hd⟩ := k.2 (j - xs.length) el i d kk h1 h2 h3
   refine ⟨u, ?_, hd⟩
   have hle : xs.length * ks.length ≤ j * ks.length := Nat.mul_le_mul_right _ (by omega)
   rw [List.getElem?_append_right (by omega), hl, ← hu]
   congr 1
   rw [Nat.sub_mul]; omega
theorem SlV.news {F : Nat → Prop} {ks xs v} (h : SlV F w ks xs v) (h0 : 0 < ks.length) :
  ∃ base c news, v = .slice base xs.length c ∧ news.length = xs.length * ks.length ∧ Flat F w ks xs news ∧
   (∀ n cs, n ≤ xs.length → cs = news.take (n * ks.length) → ∀ w', w'.heap = w.heap → (Builtin.firstCells ks.length n v).run P w' = .ok ⟨cs⟩ w') := by
 obtain ⟨⟨base, c, rfl, hc, hne, hcell⟩, hlen⟩ := h
 cases base with
 | none =>
  have hx : xs = [] := by
   rcases xs with _ | ⟨y, ys⟩
   ·rfl
   ·obtain ⟨ad, h⟩ := hne (by simp); cases h
  subst hx
  refine ⟨none, c, [], rfl, by simp, ⟨by simp, by simp⟩, fun n cs hn hcs w' hw' => ?_⟩
  simp at hn hcs
  subst hn; subst hcs
  simp [Builtin.firstCells]
 | some ad =>
  have hq : ∀ q, q < xs.length * ks.length → ∃ u, w.cell? (ad.add q) = some u := by
   intro q hq
   obtain ⟨el, d, k, h1, h2, h3, h4⟩ := ah0 hlen h0 hq
   obtain ⟨u, hu, _⟩ := hcell ad _ _ _ _ _ rfl h1 h2 h3
   exact ⟨u, by rw [h4] at hu; exact hu⟩
  refine ⟨some ad, c, (List.range (xs.length * ks.length)).map fun q => (w.cell? (ad.add q)).getD undef, rfl, by simp, ⟨hlen, fun j el i d k h1 h2 h3 => ?_⟩, fun n cs hn hcs w' hw' => ?_⟩
  ·obtain ⟨u, hu, hd⟩ := hcell ad j el i d k rfl h1 h2 h3
   refine ⟨u, ?_, hd⟩
   have hj := (List.getElem?_eq_some_iff.1 h1).1
   have hi := (List.getElem?_eq_some_iff.1 h3).1
   have hlt : j * ks.length + i < xs.length * ks.length := by
    have : (j + 1) * ks.length ≤ xs.length * ks.length := Nat.mul_le_mul_right _ hj
    rw [Nat.add_mul] at this; omega
   rw [List.getElem?_map, List.getElem?_range hlt]
   simp [hu]
  ·subst hcs
   have hle : n * ks.length ≤ xs.length * ks.length := Nat.mul_le_mul_right _ hn
   refine run_firstCells_some (P := P) w' ks.length n ad _ c _ (by rw [List.length_take, List.length_map, List.length_range]; exact Nat.min_eq_left hle) (fun j v hj => ?_)
   rw [List.getElem?_take] at hj
   split at hj
   ·rename_i hjl
    rw [List.getElem?_map, List.getElem?_range (by omega)] at hj
    simp at hj
    obtain ⟨u, hu⟩ := hq j (by omega)
    rw [hu] at hj
    simp at hj
    subst hj
    have : w'.cell? (ad.add j) = w.cell? (ad.add j) := World.cell?_of_block (by rw [hw'])
    rw [this, hu]
   ·cases hj
theorem agU (F : Nat → Prop) (w : World) (s : List UInt8) : Flat F w [.int .u8] (fV s) (s.map fun b => .int .u8 b.toNat) := by
 refine ⟨by simp [fV], fun j el i d k h1 h2 h3 => ?_⟩
 have hi : i = 0 := by cases i with | zero => rfl | succ i => simp at h3
 subst hi
 have hj : j < s.length := by have := (List.getElem?_eq_some_iff.1 h1).1; simpa [fV] using this
 simp [fV, List.getElem?_eq_getElem hj] at h1
 subst h1
 simp at h2 h3
 subst h2; subst h3
 exact ⟨_, by simp [List.getElem?_eq_getElem hj], .int .u8 _⟩
structure ajQ (P : Program) (F : Nat → Prop) (w : World) (ks : List CK) (ys : List (List D)) (x : Value) (news : List Value) : Prop where
 len : ∀ w', (Builtin.lenOf x).run P w' = .ok ys.length w'
 flat : Flat F w ks ys news
 nl : news.length = ys.length * ks.length
 fc : ∀ n, n ≤ ys.length → ∀ w', w'.heap = w.heap → (Builtin.firstCells ks.length n x).run P w' = .ok ⟨news.take (n * ks.length)⟩ w'
theorem agp (R : Rel X G st a w) {ks0 : List CK} {x : AV} {u : Value} {c : List CK → List (List D) → Pr} (hx : AVR G w x u) (h : prE Γ (ahc ks0 x c) st tr = some po) :
  ∃ ks ys tr', prE Γ (c ks ys) st tr' = some po ∧ (0 < ks.length → ∃ news, ajQ P G.F w ks ys u news) := by
 have main : prE Γ (acp ks0 x c) st tr = some po → ∃ ks ys tr', prE Γ (c ks ys) st tr' = some po ∧ (0 < ks.length → ∃ news, ajQ P G.F w ks ys u news) := by
  intro h
  obtain ⟨ks, ys, tr', hs, h1⟩ := aef hx h
  refine ⟨ks, ys, tr', h1, fun hk => ?_⟩
  obtain ⟨base, cc, news, rfl, hl, hf, hfc⟩ := (hs.slV R).news (P := P) hk
  exact ⟨news, ⟨fun w' => by simp [Builtin.lenOf, pure], hf, hl, fun n hn w' hw' => hfc n _ hn rfl w' hw'⟩⟩
 unfold ahc at h
 split at h
 ·rename_i s
  obtain ⟨hc, h1⟩ := bS h
  have := dY hc; subst this
  refine ⟨_, _, _, h1, fun _ => ⟨s.map fun b => .int .u8 b.toNat, ?_⟩⟩
  rw [hx.kO]
  refine ⟨fun w' => by simp [Builtin.lenOf, xG, fV, pure], agU _ _ s, by simp [fV], fun n hn w' _ => ?_⟩
  simp only [Builtin.firstCells]
  rw [ae1]
  simp [pure]
 ·exact main h
theorem aiv {t u ty e : TypeId} {i : TypeInfo} {z : Value} {du : TypeDesc} (ht : P.underlying t = some (.slice e)) (hu : P.underlying u = some du) (hdu : du = .string ∨ ∃ e2, du = .slice e2) (hi : P.info? e = some i) (hz : i.zero = some z)
  {base : Option Addr} {n m cap : Nat} {x : Value} {olds news : List Value} (hxl : ∀ w', (Builtin.lenOf x).run P w' = .ok m w')
  (hfo : (Builtin.firstCells i.size n (.slice base n cap)).run P w.drew = .ok ⟨olds⟩ w.drew) (hfn : (Builtin.firstCells i.size m x).run P w.drew = .ok ⟨news⟩ w.drew)
  (hn : ¬ (n + m ≤ cap)) (hsm : ¬ ((n : Int) + (m : Int) > 9223372036854775807)) (hfit : ¬ (281474976710656 < Builtin.nextslicecap (n + m) cap * i.bytes)) :
  (Builtin.append_ #[t, u] ty #[.slice base n cap, x]).run P w = .ok (.slice (some ⟨w.heap.size, 0, none⟩) (n + m) (grownCap w (n + m) cap e))
   (w.drew.alloc (.cells (⟨olds⟩ ++ ⟨news⟩ ++ Builtin.zeroCells z.cells (grownCap w (n + m) cap e - (n + m))) e)) := by
 have hsm' : ¬ (9223372036854775807 < (n : Int) + (m : Int)) := by omega
 rcases hdu with rfl | ⟨e2, rfl⟩
 all_goals
  simp [Builtin.append_, run_underlying ht, run_underlying hu, Go.sizeOf, typeInfo, zeroValue, hi, hz, hxl, hn, hsm', hfit, Question.forced, hfn, hfo, Go.newRow, grownCap]
  congr 2
  apply Array.ext'
  simp [List.append_assoc]
theorem zY {t u ty e : TypeId} {i : TypeInfo} {du : TypeDesc} (ht : P.underlying t = some (.slice e)) (hu : P.underlying u = some du) (hdu : du = .string ∨ ∃ e2, du = .slice e2) (hi : P.info? e = some i)
  {base : Option Addr} {n m cap : Nat} {x : Value} {news : List Value} {w' : World} (hxl : ∀ w', (Builtin.lenOf x).run P w' = .ok m w')
  (hfn : (Builtin.firstCells i.size m x).run P w = .ok ⟨news⟩ w) (hn : n + m ≤ cap) (hst : ∀ ad, base = some ad → (storeCells (ad.add (n * i.size)) news).run P w = .ok () w') (hb : base = none → w' = w) :
  (Builtin.append_ #[t, u] ty #[.slice base n cap, x]).run P w = .ok (.slice base (n + m) cap) w' := by
 cases base with
 | none =>
  have := hb rfl
  subst this
  rcases hdu with rfl | ⟨e2, rfl⟩
  all_goals simp [Builtin.append_, run_underlying ht, run_underlying hu, Go.sizeOf, typeInfo, hi, hxl, hn, hfn]
 | some ad =>
  have hst' := hst ad rfl
  rcases hdu with rfl | ⟨e2, rfl⟩
  all_goals simp [Builtin.append_, run_underlying ht, run_underlying hu, Go.sizeOf, typeInfo, hi, hxl, hn, hfn, hst']
def Zed (v : Value) : Prop := ∀ g b n c, v = .slice (some ⟨g, b, none⟩) n c → 0 < c → b = 0
theorem RowZ.zed {F : Nat → Prop} {ks e xs v} (h : RowZ F w ks e xs v) : Zed v := by
 intro g b n c hv hc
 rcases h.2 with ⟨a, h, _⟩ | ⟨g', c', cur, h, _⟩
 ·rw [hv] at h; injection h with e1 e2 e3; omega
 ·rw [hv] at h; injection h with e1; injection e1 with e1; injection e1
theorem RowO.toZ {F : Nat → Prop} {ks e xs v} (h : RowO F w ks e xs v) (hz : Zed v) : RowZ F w ks e xs v := by
 obtain ⟨h1, h2⟩ := h
 refine ⟨h1, ?_⟩
 rcases h2 with h2 | ⟨g, o, c, cur, hv, hc, hh, h3, h4, h5, h6⟩
 ·exact .inl h2
 ·obtain rfl := hz _ _ _ _ hv hc
  exact .inr ⟨g, c, cur, hv, hc, hh, h3, h4, by omega, fun j el i d k a b cc => by have := h6 j el i d k a b cc; rwa [Nat.zero_add] at this⟩
theorem adr {t u ty e : TypeId} {ei : TI} {du : TypeDesc} (ht : P.underlying t = some (.slice e)) (hu : P.underlying u = some du) (hdu : du = .string ∨ ∃ e2, du = .slice e2) (hT : TyOK P e ei)
  {F : Nat → Prop} {xs ys : List (List D)} {v x : Value} {news : List Value} (h0 : 0 < ei.ks.length) (hv : RowO F w ei.ks e xs v) (hx : ajQ P F w ei.ks ys x news)
  (hby : ei.bytes ≠ 0) (hb : (xs.length + ys.length) * ei.bytes ≤ 140737488355328) (hF : ∀ k, F k → k < w.heap.size) (hvF : ∀ g, rowBlk v = some g → ¬ F g) :
  ∃ v' w', (Builtin.append_ #[t, u] ty #[v, x]).run P w = .ok v' w' ∧ (RowO F w' ei.ks e (xs ++ ys) v' ∧ (Zed v → Zed v')) ∧ lE (rowBlk v) w w' ∧
   (∀ g, rowBlk v' = some g → rowBlk v = some g ∨ (w.heap.size ≤ g ∧ g < w'.heap.size)) := by
 obtain ⟨i, hi, hsize, hbytes, z, hz, hzc⟩ := hT.info
 have hsmall : xs.length + ys.length ≤ 140737488355328 := Nat.le_trans (Nat.le_mul_of_pos_right _ (by omega)) hb
 have hsmallI : ¬ ((xs.length : Int) + (ys.length : Int) > 9223372036854775807) := by omega
 have hnw : news.take (ys.length * ei.ks.length) = news := List.take_of_length_le (by rw [hx.nl]; exact Nat.le_refl _)
 have hfn : ∀ w', w'.heap = w.heap → (Builtin.firstCells ei.ks.length ys.length x).run P w' = .ok ⟨news⟩ w' := fun w' hw' => by
  have := hx.fc ys.length (Nat.le_refl _) w' hw'
  rwa [hnw] at this
 have hzs : z.cells.size = ei.ks.length := by rw [hzc]; simp
 have hxl := hx.len
 have grown : ∀ (base : Option Addr) (cap : Nat) (olds : List Value), v = .slice base xs.length cap → cap < xs.length + ys.length → olds.length = xs.length * ei.ks.length → Flat F w ei.ks xs olds →
   (Builtin.firstCells ei.ks.length xs.length v).run P w.drew = .ok ⟨olds⟩ w.drew →
   ∃ v' w', (Builtin.append_ #[t, u] ty #[v, x]).run P w = .ok v' w' ∧ (RowO F w' ei.ks e (xs ++ ys) v' ∧ (Zed v → Zed v')) ∧ lE (rowBlk v) w w' ∧ (∀ g, rowBlk v' = some g → rowBlk v = some g ∨ (w.heap.size ≤ g ∧ g < w'.heap.size)) := by
  intro base cap olds hveq hcap hol hof hfo
  have hge := grownCap_ge w (xs.length + ys.length) cap e
  have hle := grownCap_le_maxLen w (xs.length + ys.length) cap e (by simp only [maxLen]; omega)
  refine ⟨.slice (some ⟨w.heap.size, 0, none⟩) (xs.length + ys.length) (grownCap w (xs.length + ys.length) cap e),
   w.drew.alloc (.cells (⟨olds⟩ ++ ⟨news⟩ ++ Builtin.zeroCells z.cells (grownCap w (xs.length + ys.length) cap e - (xs.length + ys.length))) e), ?_, ?_, ⟨rfl, rfl, rfl, by simp, fun k hk _ => heap_alloc_old w.drew _ k hk⟩, ?_⟩
  ·have hfit : ¬ (281474976710656 < Builtin.nextslicecap (xs.length + ys.length) cap * i.bytes) := by
    have := growslice_fits (bytes := i.bytes) hcap (by rw [hbytes]; exact hb)
    omega
   subst hveq
   exact aiv ht hu hdu hi hz hxl (by rw [hsize]; exact hfo) (by rw [hsize]; exact hfn w.drew rfl) (by omega) hsmallI hfit
  ·have hfl := hof.append hx.flat hol
   have hs : lW F w (w.drew.alloc (.cells (⟨olds⟩ ++ ⟨news⟩ ++ Builtin.zeroCells z.cells (grownCap w (xs.length + ys.length) cap e - (xs.length + ys.length))) e)) := fun k hk => heap_alloc_old w.drew _ k (hF k hk)
   refine ⟨⟨hfl.1, .inr ⟨w.heap.size, 0, _, _, by rw [List.length_append], by omega, heap_alloc_new w.drew _, by rw [List.length_append]; exact hge, hle, ?_, fun j el q d k h1 h2 h3 => ?_⟩⟩, fun _ g b n c hv hc => by injection hv with e1; injection e1 with e1; injection e1 with _ e1; exact e1.symm⟩
   ·rw [Nat.zero_add]
    simp only [Array.size_append, List.size_toArray, size_zeroCells, hzs, hol, hx.nl, ← Nat.add_mul]
    congr 1; omega
   ·obtain ⟨uu, hu1, hu2⟩ := hfl.2 j el q d k h1 h2 h3
    refine ⟨uu, ?_, hu2.mono (fun _ h => h) hs⟩
    have hlt := (List.getElem?_eq_some_iff.1 hu1).1
    rw [Nat.zero_add, Array.getElem?_append_left (by simpa using hlt)]
    simpa using hu1
  ·intro g hg
   simp [rowBlk] at hg
   exact .inr ⟨by omega, by rw [← hg.2]; simp⟩
 obtain ⟨hvl, hv2⟩ := hv
 rcases hv2 with ⟨b, rfl, rfl⟩ | ⟨g, o, cap, cur, rfl, hcap0, hh, hlc, hcm, hcs, hcell⟩
 ·by_cases hm : ys.length = 0
  ·have hy : ys = [] := List.eq_nil_of_length_eq_zero hm
   subst hy
   have hnn : news = [] := List.eq_nil_of_length_eq_zero (by rw [hx.nl]; simp)
   subst hnn
   refine ⟨.slice b 0 0, w, ?_, ⟨⟨by simp, .inl ⟨b, rfl, rfl⟩⟩, fun h => h⟩, ⟨rfl, rfl, rfl, Nat.le_refl _, fun _ _ _ => rfl⟩, fun g hg => .inl hg⟩
   have hfn' := hfn w rfl
   exact zY (n := 0) (m := 0) (cap := 0) ht hu hdu hi hxl (by rw [hsize]; exact hfn') (by omega) (fun ad _ => by simp [storeCells]) (fun _ => rfl)
  ·refine grown b 0 [] rfl (by simp; omega) (by simp) ⟨by simp, by simp⟩ ?_
   cases b <;> simp [Builtin.firstCells, loadCells, loadCellsFrom]
 ·have hX : o + xs.length * ei.ks.length ≤ cur.size := by rw [hcs]; have := Nat.mul_le_mul_right ei.ks.length hlc; omega
  have hol : ((cur.toList.drop o).take (xs.length * ei.ks.length)).length = xs.length * ei.ks.length := by
   simp; omega
  have hof : Flat F w ei.ks xs ((cur.toList.drop o).take (xs.length * ei.ks.length)) := by
   refine ⟨hvl, fun j el q d k h1 h2 h3 => ?_⟩
   obtain ⟨uu, hu1, hu2⟩ := hcell j el q d k h1 h2 h3
   refine ⟨uu, ?_, hu2⟩
   have hj := (List.getElem?_eq_some_iff.1 h1).1
   have hq := (List.getElem?_eq_some_iff.1 h3).1
   have : (j + 1) * ei.ks.length ≤ xs.length * ei.ks.length := Nat.mul_le_mul_right _ hj
   rw [Nat.add_mul] at this
   rw [List.getElem?_take, if_pos (by omega), List.getElem?_drop]
   simpa using hu1
  by_cases hroom : xs.length + ys.length ≤ cap
  ·have hlen : o + xs.length * ei.ks.length + news.length ≤ cur.size := by
    rw [hx.nl, hcs, Nat.add_assoc, ← Nat.add_mul]; have := Nat.mul_le_mul_right ei.ks.length hroom; omega
   have hst := run_storeCells_at P g (o + xs.length * ei.ks.length) e news 0 cur w hh (by simpa using hlen) (hx.flat.one h0 hx.nl)
   simp only [Nat.add_zero] at hst
   have hsplit : cur.toList.take (o + xs.length * ei.ks.length) = cur.toList.take o ++ (cur.toList.drop o).take (xs.length * ei.ks.length) := List.take_add
   have hto : (cur.toList.take o).length = o := by simp; omega
   refine ⟨.slice (some ⟨g, o, none⟩) (xs.length + ys.length) cap, w.setRow g (cur.toList.take (o + xs.length * ei.ks.length) ++ news ++ cur.toList.drop (o + xs.length * ei.ks.length + news.length)).toArray, ?_, ⟨?_, fun hz g' b' n' c' hv' hc' => ?_⟩,
    ⟨rfl, rfl, rfl, by simp, fun k _ hk => setRow_other w g k _ (fun e => hk (by simp [rowBlk, e]; omega))⟩, ?_⟩
   ·exact zY ht hu hdu hi hxl (by rw [hsize]; exact hfn w rfl) hroom (fun ad had => by
     obtain rfl : ⟨g, o, none⟩ = ad := by simpa using had
     rw [add_lit, hsize]; exact hst) (fun h => by cases h)
   ·have hs : lW F w (w.setRow g (cur.toList.take (o + xs.length * ei.ks.length) ++ news ++ cur.toList.drop (o + xs.length * ei.ks.length + news.length)).toArray) := by
     intro k hk
     refine setRow_other w g k _ (fun e => ?_)
     subst e
     exact hvF k (by simp [rowBlk]; omega) hk
    have hfl := hof.append hx.flat hol
    refine ⟨hfl.1, .inr ⟨g, o, cap, _, by rw [List.length_append], hcap0, setRow_heap w g cur _ e _ hh, by rw [List.length_append]; exact hroom, hcm, ?_, fun j el q d k h1 h2 h3 => ?_⟩⟩
    ·simp only [List.size_toArray, List.length_append, List.length_drop, List.length_take, Array.length_toList]
     omega
    ·obtain ⟨uu, hu1, hu2⟩ := hfl.2 j el q d k h1 h2 h3
     refine ⟨uu, ?_, hu2.mono (fun _ h => h) hs⟩
     have hlt := (List.getElem?_eq_some_iff.1 hu1).1
     simp only [List.getElem?_toArray]
     rw [hsplit, List.append_assoc (cur.toList.take o), List.append_assoc (cur.toList.take o), List.getElem?_append_right (by rw [hto]; omega), hto, Nat.add_sub_cancel_left, List.getElem?_append_left hlt]
     exact hu1
   ·injection hv' with e1; injection e1 with e1; injection e1 with _ e1
    have := hz g o xs.length cap rfl hcap0
    omega
   ·intro g' hg'
    simp [rowBlk] at hg' ⊢
    exact .inl ⟨by omega, hg'.2⟩
  ·refine grown _ cap _ rfl (by omega) hol hof ?_
   refine run_firstCells_some (P := P) w.drew ei.ks.length xs.length ⟨g, o, none⟩ _ cap _ hol (fun j v hj => ?_)
   rw [List.getElem?_take] at hj
   split at hj
   ·rw [List.getElem?_drop] at hj
    rw [add_lit, World.cell?_drew, cell_of_row w g _ cur e (0, 0) hh]; simpa using hj
   ·cases hj
theorem aaW {t u ty e e' : TypeId} {ei : TI} {du : TypeDesc} (ht : P.underlying t = some (.slice e)) (hu : P.underlying u = some du) (hdu : du = .string ∨ ∃ e2, du = .slice e2) (hT : TyOK P e ei)
  {F : Nat → Prop} {xs ys : List (List D)} {v x : Value} {news : List Value} (h0 : 0 < ei.ks.length) (hv : RowV F w ei.ks e' xs v) (he : e < ROWF) (hee : e' = e ∨ e' = mark e) (hx : ajQ P F w ei.ks ys x news)
  (hby : ei.bytes ≠ 0) (hb : (xs.length + ys.length) * ei.bytes ≤ 140737488355328) (hF : ∀ k, F k → k < w.heap.size) (hvF : ∀ g, rowBlk v = some g → ¬ F g) :
  ∃ v' w', (Builtin.append_ #[t, u] ty #[v, x]).run P w = .ok v' w' ∧ RowV F w' ei.ks e' (xs ++ ys) v' ∧ lE (rowBlk v) w w' ∧
   (∀ g, rowBlk v' = some g → rowBlk v = some g ∨ (w.heap.size ≤ g ∧ g < w'.heap.size)) := by
 rcases hee with rfl | rfl
 ·have hz := hv.z he
  obtain ⟨v', w', a1, ⟨a2, a3⟩, a4⟩ := adr ht hu hdu hT h0 hz.o hx hby hb hF hvF
  exact ⟨v', w', a1, (a2.toZ (a3 hz.zed)).toV he, a4⟩
 ·have ho := hv.om
  obtain ⟨v', w', a1, ⟨a2, a3⟩, a4⟩ := adr (ty := ty) ht hu hdu hT h0 ho hx hby hb hF hvF
  exact ⟨v', w', a1, a2.toV, a4⟩
end
end PX
set_option linter.unusedVariables false
set_option linter.unusedSimpArgs false
namespace PX
open Go
section
variable {P : Program} {E : Env} {Γ : Fun} {X : Ctx} {G : Gh} {st : Sto} {a : Act} {w : World} {tr : Tr} {po : PO}
 {next : Act → World → Prop} {Q : Exit → Act → World → Prop} {o : Oper}
theorem qR {d : Nat} {ks e by_ xs} (h : prE Γ (newRow d ks e by_ xs) st tr = some po) :
  ks.all CK.isData = true ∧ 0 < ks.length ∧ st (.rw d) = .none ∧ ∃ tr', po = .val (.row d) (st.upd (.rw d) (.row ks e by_ xs false)) tr' := by
 unfold newRow at h
 obtain ⟨hc, h1⟩ := bS h
 simp only [Bool.and_eq_true, Bool.not_eq_true', xC] at hc
 obtain ⟨hf, tr1, h2⟩ := vX h1
 simp only [prE] at h2
 refine ⟨hc.1, ?_, hf, _, by simpa [prE] using h2.symm⟩
 rcases ks with _ | ⟨k, ks⟩
 ·simp at hc
 ·simp
theorem anp (s : Sto) (l : Loc) (v v' : LV) : (s.upd l v).upd l v' = s.upd l v' := by
 funext l'
 by_cases h : l = l'
 ·subst h; simp
 ·rw [aP _ _ h, aP _ _ h, aP _ _ h]
theorem xE {d : Nat} {dst : Option Nat} (hdd : dst.getD 9999 = d) (R : Rel X G st a w) (hd : ∀ d, dst = some d → d < X.nt) (hf : st (.rw d) = .none) {ks e by_ xs v} (hk : ks.all CK.isData = true) (hk0 : 0 < ks.length) (hv : RowV G.F w ks e xs v)
  (hg : ∀ g, rowBlk v = some g → ¬ G.F g ∧ g < w.heap.size ∧ (X.B ≤ g ∨ X.M g) ∧ ∀ l, blk G st l ≠ some g) :
  Rel X (G.iQ d v ks.length) (putDst (st.upd (.rw d) (.row ks e by_ xs false)) dst (.row d)) (a.put dst v) w := by
 have R1 := R.ae9 hf (by_ := by_) hk hk0 hv hg
 refine R1.putDst hd ?_ (by simp [AV.refs])
 have : (G.iQ d v ks.length).rv d = v := by simp [Gh.iQ]
 have h := AVR.row (G := G.iQ d v ks.length) (w := w) d
 rwa [this] at h
theorem aif (R : Rel X G st a w) {w' : World} (h : Ext w w') {g : Nat} (h1 : w.heap.size ≤ g) (h2 : g < w'.heap.size) : ¬ G.F g ∧ g < w'.heap.size ∧ (X.B ≤ g ∨ X.M g) ∧ ∀ l, blk G st l ≠ some g :=
 ⟨fun hk => by have := R.base.Flt _ hk; omega, h2, .inl (Nat.le_trans R.base.size h1), fun l hl => by have := (R.own l _ hl).2.1; omega⟩
theorem akb (EO : dE P E) {dst s x t u ty pos af g} : OpS P E Γ ⟨dst, .call ⟨.builtin .append, ⟨[s, x]⟩, ⟨[t, u]⟩⟩, ty, pos, af, g⟩ := by
 intro X G st a w tr po next Q h R hd _ hk _
 obtain ⟨v1, tr1, h1, hr1, h2⟩ := cU R (show prE Γ (ev s fun s => ev x fun x => cV E t fun e ei => eC E u fun ui => if uR ui || isStr ui then ad4 (E.flg (dst.getD 9999) t) (dst.getD 9999) e ei s x else .fail) st tr = some po from h)
 obtain ⟨v2, tr2, h3, hr2, h4⟩ := cU R h2
 obtain ⟨e, ei, hei, htu, h5⟩ := hQ EO h4
 have hel := pR EO h4 htu
 obtain ⟨ui, hui, h6⟩ := dP h5
 obtain ⟨huc, h7⟩ := bS h6
 have hT := EO.ty e ei hei
 obtain ⟨du, hdu1, hdu2⟩ : ∃ du, P.underlying u = some du ∧ (du = .string ∨ ∃ e2, du = .slice e2) := by
  simp only [Bool.or_eq_true] at huc
  rcases huc with hc | hc
  ·exact ⟨_, rU EO hui hc, .inr ⟨_, rfl⟩⟩
  ·exact ⟨_, zM EO hui hc, .inl rfl⟩
 unfold ad4 at h7
 obtain ⟨ks, ys, tr3, h8, hsrc⟩ := agp (P := P) R h3 h7
 obtain ⟨hc, h9⟩ := bS h8
 simp only [Bool.and_eq_true, Bool.not_eq_true'] at hc
 obtain rfl := dY hc.1
 have hby : ei.bytes ≠ 0 := fun e0 => by rw [e0] at hc; simp at hc
 clear h8 h7 h6 h5 h4 h2 h
 have hrun : ∀ {v' : Value} {w' : World}, (Builtin.append_ #[t, u] ty #[a.eval s, a.eval x]).run P w = .ok v' w' → (execOp a.eval ⟨dst, .call ⟨.builtin .append, ⟨[s, x]⟩, ⟨[t, u]⟩⟩, ty, pos, af, g⟩).run P w = .ok (.value v') w' := by
  intro v' w' hh
  simp only [execOp, resolve, invoke, builtin, Sem.run_bind, Sem.run_pure, Result.andThen_ok]
  have : (⟨[s, x]⟩ : Array Operand).map a.eval = #[a.eval s, a.eval x] := by simp
  rw [this, hh]; rfl
 generalize hus : a.eval s = us at h1 hrun
 cases h1 <;> simp only at h9 <;> first | exact (aY h9).elim | skip
 case nil b =>
  obtain ⟨hlen, h10⟩ := eO h9
  obtain ⟨hk1, hk0, hf, tr', rfl⟩ := qR h10
  obtain ⟨news, hx⟩ := hsrc hk0
  obtain ⟨v', w', hr, hv', hext, hblk⟩ := aaW (ty := ty) (v := .slice b 0 0) (e' := bif E.flg (dst.getD 9999) t then mark e else e) htu hdu1 hdu2 hT (xs := []) hk0 (RowV.nil b) hel (by cases E.flg (dst.getD 9999) t; exact .inl rfl; exact .inr rfl) hx hby (by simpa using of_decide_eq_true hlen) R.base.Flt (by cases b <;> simp [rowBlk])
  have hnb : rowBlk (.slice b 0 0) = none := by cases b <;> simp [rowBlk]
  have hE : Ext w w' := ⟨hext.os, hext.tape, hext.output, hext.size, fun k hk => hext.keep k hk (by rw [hnb]; simp)⟩
  refine fB (hrun hr) (hk _ _ _ rfl _ _ _ (xE rfl (R.ext hE) hd hf hk1 hk0 (by simpa using hv') (fun g' hg' => ?_)))
  rcases hblk g' hg' with h' | ⟨h', h''⟩
  ·rw [hnb] at h'; cases h'
  ·obtain ⟨q1, q2, q3, q4⟩ := aif R hE h' h''
   exact ⟨q1, q2, q3, q4⟩
 case row r =>
  simp only [prE] at h9
  split at h9
  ·rename_i ks' e' by_ xs hrr
   obtain ⟨hc2, h10⟩ := bS h9
   simp only [Bool.and_eq_true, Bool.not_eq_true'] at hc2
   obtain ⟨⟨⟨hee, hkk⟩, hbb⟩, hrd⟩ := hc2
   have hee' : e' = e ∨ e' = mark e := by
    rcases Bool.or_eq_true_iff.1 hee with q | q
    ·exact .inl (Nat.eq_of_beq_eq_true q).symm
    ·exact .inr (Nat.eq_of_beq_eq_true q).symm
   obtain rfl := dY hkk
   have hne : r ≠ dst.getD 9999 := by rintro rfl; simp at hrd
   obtain ⟨hlen, h11⟩ := eO h10
   simp only [prE] at h11
   obtain ⟨hk1, hk0, hf, tr', rfl⟩ := qR h11
   obtain ⟨news, hx⟩ := hsrc hk0
   obtain ⟨q1, q2, q3, q4, q5⟩ := R.rw r _ _ _ _ _ hrr
   have hlive : ∀ g', rowBlk (G.rv r) = some g' → ¬ G.F g' := fun g' hg' => (R.own (.rw r) g' (by simp [blk, hrr, hg'])).1
   obtain ⟨v', w', hr, hv', hext, hblk⟩ := aaW (ty := ty) htu hdu1 hdu2 hT hk0 q4 hel hee' hx hby (by simpa using of_decide_eq_true hlen) R.base.Flt hlive
   obtain ⟨R1, hgone⟩ := R.adQ hrr hext
   refine fB (hrun hr) (hk _ _ _ rfl _ _ _ (xE rfl R1 hd hf hk1 hk0 hv' (fun g' hg' => ?_)))
   rcases hblk g' hg' with h' | ⟨h', h''⟩
   ·obtain ⟨s1, s2, s3, s4⟩ := hgone g' h'
    exact ⟨s1, Nat.lt_of_lt_of_le s2 hext.size, s3, s4⟩
   ·refine ⟨fun hk => by have := R.base.Flt _ hk; omega, h'', .inl (Nat.le_trans R.base.size h'), fun l hl => ?_⟩
    have hl' : blk G st l = some g' := by
     by_cases e : l = .rw r
     ·subst e; simp [blk] at hl
     ·cases l <;> simp only [blk] at hl ⊢ <;> first | (rw [aP _ _ (Ne.symm e)] at hl; exact hl) | exact hl
    have := (R.own l _ hl').2.1
    omega
  ·cases h9
theorem Flat.take {F : Nat → Prop} {ks xs cs} (h : Flat F w ks xs cs) (n : Nat) : Flat F w ks (xs.take n) (cs.take (n * ks.length)) := by
 refine ⟨fun el hel => h.1 el (List.mem_of_mem_take hel), fun j el i d k h1 h2 h3 => ?_⟩
 have hj : j < n := by have := (List.getElem?_eq_some_iff.1 h1).1; simp at this; omega
 rw [List.getElem?_take, if_pos hj] at h1
 obtain ⟨u, hu, hd⟩ := h.2 j el i d k h1 h2 h3
 have hi := (List.getElem?_eq_some_iff.1 h3).1
 have : (j + 1) * ks.length ≤ n * ks.length := Nat.mul_le_mul_right _ hj
 rw [Nat.add_mul] at this
 exact ⟨u, by rw [List.getElem?_take, if_pos (by omega)]; exact hu, hd⟩
theorem Flat.drop {F : Nat → Prop} {ks xs cs} (h : Flat F w ks xs cs) (n : Nat) : Flat F w ks (xs.drop n) (cs.drop (n * ks.length)) := by
 refine ⟨fun el hel => h.1 el (List.mem_of_mem_drop hel), fun j el i d k h1 h2 h3 => ?_⟩
 rw [List.getElem?_drop] at h1
 obtain ⟨u, hu, hd⟩ := h.2 (n + j) el i d k h1 h2 h3
 exact ⟨u, by rw [List.getElem?_drop, ← hu]; congr 1; rw [Nat.add_mul]; omega, hd⟩
theorem agD (R : Rel X G st a w) {r : Nat} {ks e by_ xs} (hel : e < ROWF) (hr : st (.rw r) = .row ks e by_ xs false) {g c : Nat} {cur : Array Value} (hv : G.rv r = .slice (some ⟨g, 0, none⟩) xs.length c) (hc0 : 0 < c) (hh : w.heap[g]? = some (.cells cur e (0, 0)))
  {xs' : List (List D)} {cur' : List Value} (hl : xs'.length = xs.length) (hcl : cur'.length = cur.size) (hfl : Flat G.F w ks xs' cur') :
  Rel X G (st.upd (.rw r) (.row ks e by_ xs' false)) a (w.setRow g ⟨cur'⟩) := by
 obtain ⟨q1, q2, q3, q46, q5⟩ := R.rw r _ _ _ _ _ hr
 obtain ⟨q4, q6⟩ := q46.z hel
 have hb : rowBlk (G.rv r) = some g := by rw [hv]; simp [rowBlk]; omega
 have hx : lE (rowBlk (G.rv r)) w (w.setRow g ⟨cur'⟩) := ⟨rfl, rfl, rfl, by simp, fun k hk hn => setRow_other w g k _ (fun e => hn (by rw [hb, e]))⟩
 obtain ⟨R1, hg⟩ := R.adQ hr hx
 have hgF := hg g hb
 have hs : lW G.F w (w.setRow g ⟨cur'⟩) := fun k hk => setRow_other w g k _ (fun e => by subst e; exact hgF.1 hk)
 rw [← anp st (.rw r) .gone]
 refine R1.amW (by simp) q3 q2 q1 ?_ (fun g' hg' => ?_)
 ·refine RowZ.toV ⟨hfl.1, .inr ⟨g, c, ⟨cur'⟩, by rw [hv, hl], hc0, setRow_heap w g cur _ e _ hh, ?_, ?_, ?_, fun j el i d k h1 h2 h3 => ?_⟩⟩ hel
  ·rcases q6 with ⟨b, h, _⟩ | ⟨g2, c2, cur2, h, _, _, h4, _⟩
   ·rw [hv] at h; injection h with e1 e2 e3; omega
   ·rw [hv] at h; injection h with e1 e2 e3; omega
  ·rcases q6 with ⟨b, h, _⟩ | ⟨g2, c2, cur2, h, _, _, h4, h5, _⟩
   ·rw [hv] at h; injection h with e1 e2 e3; omega
   ·rw [hv] at h; injection h with e1 e2 e3; omega
  ·rcases q6 with ⟨b, h, _⟩ | ⟨g2, c2, cur2, h, _, hh2, h4, h5, h6, _⟩
   ·rw [hv] at h; injection h with e1 e2 e3; omega
   ·rw [hv] at h; injection h with e1 e2 e3
    injection e1 with e1; injection e1 with e1
    subst e1; subst e3
    rw [hh] at hh2; injection hh2 with hh2; injection hh2 with hh2
    subst hh2
    simp only [List.size_toArray]; omega
  ·obtain ⟨u, hu, hd⟩ := hfl.2 j el i d k h1 h2 h3
   exact ⟨u, by simpa using hu, hd.mono (fun _ h => h) hs⟩
 ·obtain ⟨s1, s2, s3, s4⟩ := hg g' hg'
  exact ⟨s1, by simpa using s2, s3, s4⟩
theorem acz (R : Rel X G st a w) {r : Nat} {ks e by_ xs} (hel : e < ROWF) (hr : st (.rw r) = .row ks e by_ xs false) {base : Option Addr} {lo : Nat} {zs : List (List D)} {us : List Value}
  (hz : Flat G.F w ks zs us) (hul : us.length = zs.length * ks.length) (hle : lo + zs.length ≤ xs.length)
  (hb : 0 < zs.length → ∀ g c, G.rv r = .slice (some ⟨g, 0, none⟩) xs.length c → base = some ⟨g, lo * ks.length, none⟩) :
  ∃ w', (∀ ad, base = some ad → (storeCells ad us).run P w = .ok () w') ∧ (base = none → w' = w) ∧
   Rel X G (st.upd (.rw r) (.row ks e by_ (xs.take lo ++ zs ++ xs.drop (lo + zs.length)) false)) a w' := by
 rcases Nat.eq_zero_or_pos zs.length with hz0 | hz0
 ·have hzs : zs = [] := List.eq_nil_of_length_eq_zero hz0
  subst hzs
  have hus : us = [] := List.eq_nil_of_length_eq_zero (by simpa using hul)
  subst hus
  refine ⟨w, fun ad _ => by simp [storeCells, pure], fun _ => rfl, ?_⟩
  simp only [List.append_nil, List.length_nil, Nat.add_zero, List.take_append_drop]
  rw [aeH _ hr]; exact R
 ·obtain ⟨q1, q2, q3, q46, q5⟩ := R.rw r _ _ _ _ _ hr
  obtain ⟨q4, q6⟩ := q46.z hel
  rcases q6 with ⟨b, hval, rfl⟩ | ⟨g, c, cur, hval, hc, hh, h4, h5, h6, h7⟩
  ·simp only [List.length_nil] at hle; omega
  ·have hbase := hb hz0 g c hval
   subst hbase
   have hfl : Flat G.F w ks xs cur.toList := ⟨q4, fun j el i d k z1 z2 z3 => by obtain ⟨u, hu, hd⟩ := h7 j el i d k z1 z2 z3; exact ⟨u, by simpa using hu, hd⟩⟩
   have hmul : (lo + zs.length) * ks.length ≤ cur.size := by rw [h6]; exact Nat.mul_le_mul_right _ (by omega)
   have hmul' : lo * ks.length + us.length = (lo + zs.length) * ks.length := by rw [hul, Nat.add_mul]
   have hst := run_storeCells_at P g (lo * ks.length) e us 0 cur w hh (by rw [Nat.add_zero, hmul']; exact hmul) (hz.one q2 hul)
   simp only [Nat.add_zero] at hst
   refine ⟨_, fun ad had => ?_, (fun h => nomatch h), agD R hel hr hval hc hh (xs' := xs.take lo ++ zs ++ xs.drop (lo + zs.length)) (cur' := cur.toList.take (lo * ks.length) ++ us ++ cur.toList.drop (lo * ks.length + us.length)) ?_ ?_ ?_⟩
   ·obtain rfl := Option.some.inj had
    exact hst
   ·simp; omega
   ·simp; omega
   ·rw [hmul']
    refine ((hfl.take lo).append hz ?_).append (hfl.drop _) ?_
    ·simp
     rw [Nat.min_eq_left (by omega), Nat.min_eq_left (by omega)]
    ·simp
     rw [Nat.min_eq_left (by omega), Nat.min_eq_left (by omega), hul, Nat.add_mul]
theorem alN {α : Type} (l : List α) (n : Nat) : l.take (min l.length n) = l.take n := by
 rcases Nat.le_total l.length n with h | h
 ·rw [Nat.min_eq_left h, List.take_of_length_le h, List.take_of_length_le (Nat.le_refl _)]
 ·rw [Nat.min_eq_right h]
theorem alX (EO : dE P E) {dst s x t ts ty pos af g} : OpS P E Γ ⟨dst, .call ⟨.builtin .copy, ⟨[s, x]⟩, ⟨t :: ts⟩⟩, ty, pos, af, g⟩ := by
 intro X G st a w tr po next Q h R hd _ hk _
 obtain ⟨v1, tr1, h1, hr1, h2⟩ := cU R (show prE Γ (ev s fun s => ev x fun x => cV E t fun _ ei => aie s x ei.ks) st tr = some po from h)
 obtain ⟨v2, tr2, h3, hr2, h4⟩ := cU R h2
 obtain ⟨e, ei, hei, htu, h5⟩ := hQ EO h4
 have hT := EO.ty e ei hei
 unfold aie at h5
 obtain ⟨ks, ys, tr3, h6, hsrc⟩ := agp (P := P) R h3 h5
 obtain ⟨hc, h7⟩ := bS h6
 simp only [Bool.and_eq_true, Bool.not_eq_true'] at hc
 obtain rfl := dY hc.1
 have hk0 : 0 < ei.ks.length := by
  rcases hee : ei.ks with _ | ⟨k, kk⟩
  ·rw [hee] at hc; simp at hc
  ·simp
 obtain ⟨news, hx⟩ := hsrc hk0
 clear hsrc h6 h5 h4 h2 h
 have hz : (Go.sizeOf e).run P w = .ok ei.ks.length w := run_sizeOf hT
 have hrun : ∀ {v' : Value} {w' : World}, (Builtin.copy_ ⟨t :: ts⟩ ty #[a.eval s, a.eval x]).run P w = .ok v' w' → (execOp a.eval ⟨dst, .call ⟨.builtin .copy, ⟨[s, x]⟩, ⟨t :: ts⟩⟩, ty, pos, af, g⟩).run P w = .ok (.value v') w' := by
  intro v' w' hh
  simp only [execOp, resolve, invoke, builtin, Sem.run_bind, Sem.run_pure, Result.andThen_ok]
  have : (⟨[s, x]⟩ : Array Operand).map a.eval = #[a.eval s, a.eval x] := by simp
  rw [this, hh]; rfl
 have main : ∀ (base : Option Addr) (n c : Nat) (w' : World), (∀ ad, base = some ad → (storeCells ad (news.take (min ys.length n * ei.ks.length))).run P w = .ok () w') → (base = none → w' = w) →
   (Builtin.copy_ ⟨t :: ts⟩ ty #[.slice base n c, a.eval x]).run P w = .ok (.int .i64 (min ys.length n : Nat)) w' := by
  intro base n c w' hst hb
  have hxl := hx.len w
  have hfc := hx.fc (min ys.length n) (Nat.min_le_left _ _) w rfl
  have e1 : Nat.min ys.length n = min ys.length n := rfl
  cases base with
  | none => have := hb rfl; subst this; simp [Builtin.copy_, run_underlying htu, hxl, hz, hfc, goInt, e1, pure]
  | some ad => have := hst ad rfl; simp [Builtin.copy_, run_underlying htu, hxl, hz, hfc, goInt, e1, this, pure]
 have hflat : ∀ n, Flat G.F w ei.ks (ys.take n) (news.take (min ys.length n * ei.ks.length)) := fun n => by
  have := hx.flat.take (min ys.length n)
  rwa [alN] at this
 have hfl : ∀ n, (news.take (min ys.length n * ei.ks.length)).length = (ys.take n).length * ei.ks.length := fun n => by
  have h1 : min ys.length n * ei.ks.length ≤ ys.length * ei.ks.length := Nat.mul_le_mul_right _ (Nat.min_le_left _ _)
  simp only [List.length_take, hx.nl]
  rw [Nat.min_eq_left h1, Nat.min_comm]
 generalize hus : a.eval s = us at h1 hrun
 cases h1 <;> simp only at h7 <;> first | exact (aY h7).elim | skip
 case nil b =>
  have := eR h7; subst this
  refine fB (hrun (main b 0 0 w (fun ad _ => by simp [storeCells, pure]) (fun _ => rfl))) (hk _ _ _ rfl _ _ _ (R.putDst hd ?_ pP))
  simpa using AVR.mkInt (G := G) (w := w) .i64 0
 case row r =>
  simp only [prE] at h7
  split at h7
  ·rename_i ks' e' by_ xs hrr
   obtain ⟨hkk, h8⟩ := bS h7
   simp only [Bool.and_eq_true] at hkk
   have hel := Nat.le_of_ble_eq_true hkk.2
   obtain rfl := dY hkk.1
   simp only [prE] at h8
   obtain rfl := Option.some.inj h8.symm
   obtain ⟨q1, q2, q3, q46, q5⟩ := R.rw r _ _ _ _ _ hrr
   obtain ⟨q4, q6⟩ := q46.z hel
   obtain ⟨base, c, hval⟩ : ∃ base c, G.rv r = .slice base xs.length c := by
    rcases q6 with ⟨b, hval, rfl⟩ | ⟨g, c, cur, hval, _⟩
    ·exact ⟨b, 0, hval⟩
    ·exact ⟨_, c, hval⟩
   obtain ⟨w', k1, k2, k3⟩ := acz (P := P) R hel hrr (base := base) (lo := 0) (hflat xs.length) (hfl _) (by simp; omega) (fun _ g c' hv => by
    rw [hval] at hv; injection hv with e1; rw [e1, Nat.zero_mul])
   refine fB (hrun (by rw [hval]; exact main base _ c w' k1 k2)) (hk _ _ _ rfl G _ _ (Rel.putDst ?_ hd (AVR.mkInt _ _) pP))
   simp only [List.take_zero, List.nil_append, Nat.zero_add, List.length_take] at k3
   rw [Nat.min_comm] at k3
   exact k3
  ·cases h7
 case win r lo n b a' n0 c0 c' hv hn hc' ha =>
  simp only [prE] at h7
  split at h7
  ·rename_i ks' e' by_ xs hrr
   obtain ⟨hkk, h8⟩ := bS h7
   simp only [Bool.and_eq_true] at hkk
   have hel := Nat.le_of_ble_eq_true hkk.2
   obtain rfl := dY hkk.1
   simp only [prE] at h8
   obtain rfl := Option.some.inj h8.symm
   obtain ⟨q1, q2, q3, q46, q5⟩ := R.rw r _ _ _ _ _ hrr
   obtain ⟨q4, q6⟩ := q46.z hel
   have hn0 : n0 = xs.length := by
    rcases q6 with ⟨b, hval, rfl⟩ | ⟨g, c, cur, hval, _⟩ <;> rw [hval] at hv <;> injection hv with e1 e2 <;> exact e2.symm
   obtain ⟨w', k1, k2, k3⟩ := acz (P := P) R hel hrr (base := a') (lo := lo) (hflat n) (hfl _) (by simp; omega) (fun hpos g c' hv' => by
    rw [hv] at hv'; injection hv' with e1
    have hnp : 0 < n := by simp at hpos; omega
    have := ha hnp _ e1
    rw [this, q1, add_lit, Nat.zero_add])
   refine fB (hrun (main a' _ c' w' k1 k2)) (hk _ _ _ rfl G _ _ (Rel.putDst ?_ hd (AVR.mkInt _ _) pP))
   simp only [List.length_take] at k3
   rw [Nat.min_comm] at k3
   exact k3
  ·cases h7
end
end PX
set_option linter.unusedVariables false
set_option linter.unusedSimpArgs false
namespace PX
open Go
section
variable {P : Program} {E : Env} {Γ : Fun} {X : Ctx} {G : Gh} {st : Sto} {a : Act} {w : World} {tr : Tr} {po : PO}
 {next : Act → World → Prop} {Q : Exit → Act → World → Prop} {o : Oper}
theorem ak2 {F : Nat → Prop} (k : CK) (h : k.isData = true) : DR F w k k.qM k.zeroV := by
 cases k <;> first | exact .int _ _ | exact .bool _ | exact .str _ | skip
 case sl ks =>
  rw [CK.isData, s9] at h
  exact .sl ks [] none 0 (fun _ _ => undef) (by simp) (by simp) (by simp) h (by simp) (by simp)
 all_goals simp [CK.isData] at h
theorem agG (z : List Value) {n q : Nat} (hq : q < n) (h0 : 0 < z.length) : (madeCells ⟨z⟩ n)[q]? = z[q % z.length]? := by
 have hm : q % z.length < z.length := Nat.mod_lt _ h0
 simp [madeCells, hq, getElem!_def, List.getElem?_eq_getElem hm]
theorem aez {F : Nat → Prop} {ks : List CK} (hk : ks.all CK.isData = true) (h0 : 0 < ks.length) {n c : Nat} (hnc : n ≤ c) :
  Flat F w ks (List.replicate n (ks.map CK.qM)) (madeCells ⟨ks.map CK.zeroV⟩ (c * ks.length)).toList := by
 refine ⟨fun el hel => by rw [List.eq_of_mem_replicate hel]; simp, fun j el i d k h1 h2 h3 => ?_⟩
 have hj : j < n := by have := (List.getElem?_eq_some_iff.1 h1).1; simpa using this
 have hi := (List.getElem?_eq_some_iff.1 h3).1
 rw [List.getElem?_replicate, if_pos hj] at h1
 obtain rfl := Option.some.inj h1
 rw [List.getElem?_map, h3] at h2
 obtain rfl : k.qM = d := by simpa using h2
 have hlt : j * ks.length + i < c * ks.length := by
  have : (j + 1) * ks.length ≤ c * ks.length := Nat.mul_le_mul_right _ (by omega)
  rw [Nat.add_mul] at this; omega
 refine ⟨k.zeroV, ?_, ak2 k ((List.all_eq_true.1 hk) k (List.mem_of_getElem? h3))⟩
 rw [Array.getElem?_toList, agG _ hlt (by simpa using h0)]
 simp only [List.length_map]
 rw [Nat.mul_comm, Nat.mul_add_mod, Nat.mod_eq_of_lt hi, List.getElem?_map, h3]
 rfl
theorem Flat.anN {F : Nat → Prop} {ks xs e} {cur : Array Value} {g c : Nat} (h : Flat F w ks xs cur.toList) (hh : w.heap[g]? = some (.cells cur e (0, 0))) (hlc : xs.length ≤ c) (hcm : c ≤ maxLen) (hsz : cur.size = c * ks.length) (hel : e < ROWF) :
  RowV F w ks e xs (.slice (some ⟨g, 0, none⟩) xs.length c) := by
 refine RowZ.toV ⟨h.1, ?_⟩ hel
 rcases Nat.eq_zero_or_pos c with rfl | hc
 ·have : xs = [] := List.eq_nil_of_length_eq_zero (by omega)
  subst this
  exact .inl ⟨_, rfl, rfl⟩
 ·exact .inr ⟨g, c, cur, rfl, hc, hh, hlc, hcm, hsz, fun j el i d k h1 h2 h3 => by obtain ⟨u, hu, hd⟩ := h.2 j el i d k h1 h2 h3; exact ⟨u, by simpa using hu, hd⟩⟩
theorem aew {g n c : Nat} {k : Nat} (h : rowBlk (.slice (some ⟨g, 0, none⟩) n c) = some k) : k = g := by
 unfold rowBlk at h
 simp only at h
 split at h
 ·cases h
 ·exact (Option.some.inj h).symm
theorem agI (EO : dE P E) {dst t l c ty pos af g} : OpS P E Γ ⟨dst, .makeSlice t l c, ty, pos, af, g⟩ := by
 intro X G st a w tr po next Q h R hd _ hk _
 obtain ⟨v1, tr1, h1, hr1, h2⟩ := cU R (show prE Γ (ev l fun l => asN l fun l => ev c fun c => asN c fun c => cV E t fun e ei =>
   .chk (decide (0 ≤ l) && decide (l ≤ c) && decide (c * ei.bytes ≤ 281474976710656)) (if Nat.beq ei.bytes 0 then .fail else newRow (dst.getD 9999) ei.ks e ei.bytes (List.replicate l.toNat (ei.ks.map CK.qM)))) st tr = some po from h)
 obtain ⟨kl, ln, rfl, h3⟩ := aaN h2
 obtain ⟨v2, tr2, h4, _, h5⟩ := cU R h3
 obtain ⟨kc, cn, rfl, h6⟩ := aaN h5
 obtain ⟨e, ei, hei, htu, h7⟩ := hQ EO h6
 obtain ⟨hc, h8⟩ := eO h7
 obtain ⟨hb, h9⟩ := wZ h8
 obtain ⟨hk1, hk0, hf, tr', rfl⟩ := qR h9
 have hT := EO.ty e ei hei
 obtain ⟨inf, hinf, hsize, hbytes, z, hz, hzc⟩ := hT.info
 simp only [Bool.and_eq_true, decide_eq_true_eq] at hc
 obtain ⟨⟨hc0, hlc⟩, hcb⟩ := hc
 have hb0 : ei.bytes ≠ 0 := fun e => hb (by rw [e]; rfl)
 have hcm : cn ≤ 281474976710656 := by
  have : cn * 1 ≤ cn * (ei.bytes : Int) := Int.mul_le_mul_of_nonneg_left (by omega) (by omega)
  omega
 have hr := run_make (P := P) w t e inf z htu hinf hz kl kc ln cn hc0 hlc (by rw [hbytes, Int.mul_comm]; exact hcb) (by omega)
 rw [hzc, hsize] at hr
 have hrun := qC hr
 rw [← h1.iI, ← h4.iI] at hrun
 have hlen : (List.replicate ln.toNat (ei.ks.map CK.qM)).length = ln.toNat := by simp
 have hE := Ext.alloc w (.cells (madeCells ⟨ei.ks.map CK.zeroV⟩ (cn.toNat * ei.ks.length)) e)
 refine fB hrun (hk _ _ _ rfl _ _ _ (xE rfl (R.ext hE) hd hf hk1 hk0 (v := .slice (some ⟨w.heap.size, 0, none⟩) ln.toNat cn.toNat) ?_ (fun k hk => ?_)))
 ·have := (aez (F := G.F) (w := w.alloc (.cells (madeCells ⟨ei.ks.map CK.zeroV⟩ (cn.toNat * ei.ks.length)) e)) hk1 hk0 (n := ln.toNat) (c := cn.toNat) (by omega)).anN (e := e) (g := w.heap.size) (c := cn.toNat) (heap_alloc_new w _) (by rw [hlen]; omega) (by simp only [maxLen]; omega) (by simp [size_madeCells]) (pR EO h6 htu)
  rwa [hlen] at this
 ·obtain rfl := aew hk
  exact aif R hE (Nat.le_refl _) (by simp)
theorem DRs.flat {F : Nat → Prop} {ks ds vs} (h : DRs F w ks ds vs) : Flat F w ks [ds] vs := by
 refine ⟨by simp [h.len.1], fun j el i d k h1 h2 h3 => ?_⟩
 have hj : j = 0 := by have := (List.getElem?_eq_some_iff.1 h1).1; simpa using this
 subst hj
 obtain rfl : ds = el := by simpa using h1
 obtain ⟨u, hu, hd⟩ := h.get h2 h3
 exact ⟨u, by simpa using hu, hd⟩
theorem Flat.set {F : Nat → Prop} {ks xs cs ds vs} (h : Flat F w ks xs cs) (hl : cs.length = xs.length * ks.length) (k : DRs F w ks ds vs) {i : Nat} (hi : i < xs.length) :
  Flat F w ks (xs.set i ds) (cs.take (i * ks.length) ++ vs ++ cs.drop (i * ks.length + vs.length)) := by
 have e1 : xs.set i ds = xs.take i ++ [ds] ++ xs.drop (i + 1) := by
  rw [List.set_eq_take_append_cons_drop, if_pos hi]; simp
 have hm : i * ks.length ≤ xs.length * ks.length := Nat.mul_le_mul_right _ (by omega)
 rw [e1, k.len.2, show i * ks.length + ks.length = (i + 1) * ks.length by rw [Nat.add_mul]; omega]
 refine ((h.take i).append k.flat ?_).append (h.drop _) ?_
 ·simp; rw [Nat.min_eq_left (by omega), Nat.min_eq_left (by omega)]
 ·simp [k.len.2]; rw [Nat.min_eq_left (by omega), Nat.min_eq_left (by omega), Nat.add_mul]; omega
theorem amM {ks : List CK} {n : Nat} : ∀ {l : List (Nat × AV)} {us : List Value} {c : List (Nat × List D) → Pr} {G : Gh} {st : Sto} {tr : Tr}, Rel X G st a w → AVRs G w (l.map (·.2)) us → prE Γ (aco ks n l c) st tr = some po →
  ∃ G' st' l' tr', Rel X G' st' a w ∧ GLe G G' ∧ SLe st st' ∧ prE Γ (c l') st' tr' = some po ∧
   ∀ (xs : List (List D)) (cur : Array Value), Flat G'.F w ks xs cur.toList → xs.length = n → cur.size = n * ks.length →
    ∃ cur', Instr.fill (fun i => some (i * ks.length, ks.length)) cur ((l.map (·.1)).zip us) = some cur' ∧ cur'.size = n * ks.length ∧ Flat G'.F w ks (acb xs l') cur'.toList ∧ (acb xs l').length = n
 | [], us, c, G, st, tr, R, hu, h => by
  cases hu
  exact ⟨G, st, [], tr, R, .refl _, .refl _, h, fun xs cur hf hx hc => ⟨cur, by simp [Instr.fill], hc, hf, hx⟩⟩
 | (i, x) :: l, us, c, G, st, tr, R, hu, h => by
  cases hu with
  | cons _ u _ us hxu hus =>
   obtain ⟨hi, h1⟩ := bS (show prE Γ (if Nat.blt i n then yP ks (cellsOf x) fun ds => aco ks n l fun l' => c ((i, ds) :: l') else .fail) st tr = some po from h)
   have hin : i < n := Nat.le_of_ble_eq_true hi
   obtain ⟨G1, st1, ds, tr1, R1, g1, s1, hds, h2⟩ := aej R hxu h1
   obtain ⟨G2, st2, l', tr2, R2, g2, s2, h3, hfin⟩ := amM R1 (g1.uL hus) h2
   refine ⟨G2, st2, (i, ds) :: l', tr2, R2, g1.trans g2, s1.trans s2, h3, fun xs cur hf hx hc => ?_⟩
   have hds' := hds.mono g2.F (fun _ _ => rfl)
   have husz : u.cells.size = ks.length := by simpa using hds.len.2
   have hle : (i + 1) * ks.length ≤ n * ks.length := Nat.mul_le_mul_right _ hin
   rw [Nat.add_mul] at hle
   have hset := aeU cur (i * ks.length) u.cells (by omega)
   have hfl := hf.set (by simp [hc, hx]) hds' (i := i) (by omega)
   obtain ⟨cur', k1, k2, k3, k4⟩ := hfin (xs.set i ds) ⟨cur.toList.take (i * ks.length) ++ u.cells.toList ++ cur.toList.drop (i * ks.length + u.cells.toList.length)⟩ hfl (by simp [hx]) (by simp; omega)
   refine ⟨cur', ?_, k2, k3, k4⟩
   simp only [List.map_cons, List.zip_cons_cons, Instr.fill]
   rw [if_neg (by simp; omega)]
   rw [hset]
   simpa using k1
theorem afP (EO : dE P E) {dst t n ps ty pos af g} : OpS P E Γ ⟨dst, .buildSlice t n ps, ty, pos, af, g⟩ := by
 intro X G st a w tr po next Q h R hd _ hk _
 have h0 := (show prE Γ (cV E t fun e ei => xS ps.toList fun l => if !(Nat.ble (n * ei.ks.length) 16777216) then .fail else aco ei.ks n l fun l' =>
   newRow (dst.getD 9999) ei.ks e ei.bytes (acb (List.replicate n (ei.ks.map CK.qM)) l')) st tr = some po from h)
 obtain ⟨e, ei, hei, htu, h1⟩ := hQ EO h0
 have hel := pR EO h0 htu
 clear h0
 obtain ⟨l, tr1, h2, h3, h4, h5⟩ := aa6 R h1
 obtain ⟨hc, h6⟩ := wZ h2
 have hn : n * ei.ks.length ≤ 16777216 := by
  simp only [Bool.not_eq_true', Bool.not_eq_false] at hc
  exact Nat.le_of_ble_eq_true hc
 obtain ⟨G', st', l', tr2, R', gl, sl, h7, hfin⟩ := amM R h4 h6
 obtain ⟨hk1, hk0, hf, tr', rfl⟩ := qR h7
 have hT := EO.ty e ei hei
 obtain ⟨inf, hinf, hsize, hbytes, z, hz, hzc⟩ := hT.info
 have hn' : n ≤ 16777216 := Nat.le_trans (Nat.le_mul_of_pos_right n hk0) hn
 obtain ⟨cur', k1, k2, k3, k4⟩ := hfin _ (madeCells ⟨ei.ks.map CK.zeroV⟩ (n * ei.ks.length)) (aez hk1 hk0 (Nat.le_refl n)) (by simp) (size_madeCells _ _)
 have hz2 : (l.map (·.1)).zip (ps.toList.map fun p => a.eval p.2) = (ps.map fun (x : Nat × Operand) => (x.1, a.eval x.2)).toList := by
  rw [h3]
  simp only [Array.toList_map]
  generalize ps.toList = pl
  clear k1 k2 k3 k4 hfin h1 h2 h3 h4 h5 h6 h7 h
  induction pl with
  | nil => rfl
  | cons p pl ih => simp [ih]
 rw [hz2] at k1
 have hr : (Instr.buildSlice t n (ps.map fun (i, x) => (i, a.eval x))).run P w = .ok (.slice (some ⟨w.heap.size, 0, none⟩) n n) (w.alloc (.cells cur' e)) := by
  have hsz : (Go.sizeOf e).run P w = .ok ei.ks.length w := run_sizeOf hT
  have hng : ¬ (2 ^ 24 < n * ei.ks.length) := by omega
  unfold Instr.buildSlice
  simp only [Sem.run_bind, run_underlying htu, Result.andThen_ok, hsz]
  rw [if_neg (by omega)]
  have hmd : madeCells ⟨ei.ks.map CK.zeroV⟩ (n * ei.ks.length) = (Array.range (n * ei.ks.length)).map (fun x => (⟨ei.ks.map CK.zeroV⟩ : Array Value)[x % (⟨ei.ks.map CK.zeroV⟩ : Array Value).size]!) := rfl
  by_cases h0 : n * ei.ks.length = 0
  ·rw [if_pos h0]
   rw [hmd, h0] at k1
   simp only [Sem.run_bind, Sem.run_pure, Result.andThen_ok, h0]
   have : (Array.range 0).map (fun x => (#[] : Array Value)[x % (#[] : Array Value).size]!) = (Array.range 0).map (fun x => (⟨ei.ks.map CK.zeroV⟩ : Array Value)[x % (⟨ei.ks.map CK.zeroV⟩ : Array Value).size]!) := by simp
   simp only [pure, Sem.run_pure, Result.andThen_ok]
   rw [this, k1]
   simp [Go.newRow, Sem.run_bind]
  ·rw [if_neg h0]
   rw [hmd] at k1
   have hzv : (zeroValue e).run P w = .ok z w := by simp [zeroValue, typeInfo, hinf, hz]
   simp only [Sem.run_bind, hzv, Result.andThen_ok, Sem.run_pure, hzc]
   rw [k1]
   simp [Go.newRow, Sem.run_bind, pure]
 have hE := Ext.alloc w (.cells cur' e)
 refine fB (qC hr) (hk _ _ _ rfl _ _ _ (xE rfl (R'.ext hE) hd hf hk1 hk0 (v := .slice (some ⟨w.heap.size, 0, none⟩) n n) ?_ (fun k hk => ?_)))
 ·have := (k3.mono (F' := G'.F) (w' := w.alloc (.cells cur' e)) (fun _ h => h) (fun k hk => hE.keep k (R'.base.Flt _ hk))).anN (e := e) (g := w.heap.size) (c := n) (heap_alloc_new w _) (by omega) (by simp only [maxLen]; omega) k2 hel
  rwa [k4] at this
 ·obtain rfl := aew hk
  exact aif R' hE (Nat.le_refl _) (by simp)
theorem zV {t : TypeId} {ti : TI} (hT : TyOK P t ti) {ad : Addr} {v : Value} {w' : World} (hn : v.cells.size = ti.ks.length) (h : (storeCells ad v.cells.toList).run P w = .ok () w') :
  (Instr.storeAt t (.pointer (some ad)) v).run P w = .ok () w' := by
 simp [Instr.storeAt, Instr.sureAddr, storeVar, run_sizeOf hT, hn, h]
theorem amr {F : Nat → Prop} {ks xs} {cur : List Value} (h : Flat F w ks xs cur) {i off m : Nat} {kt : List CK} {ds : List D} {vs : List Value} (hd : DRs F w kt ds vs) (hkt : (ks.drop off).take m = kt) (hm : kt.length = m) (hle : off + m ≤ ks.length) (hi : i < xs.length)
  (hcl : i * ks.length + ks.length ≤ cur.length) :
  Flat F w ks (xs.set i ((elemAt xs i).take off ++ ds ++ (elemAt xs i).drop (off + ds.length))) (cur.take (i * ks.length + off) ++ vs ++ cur.drop (i * ks.length + off + vs.length)) := by
 have hdl : ds.length = m := by rw [hd.len.1, hm]
 have hvl : vs.length = m := by rw [hd.len.2, hm]
 have hel : elemAt xs i = xs[i] := by simp [elemAt, hi]
 have hell : xs[i].length = ks.length := h.1 _ (List.getElem_mem hi)
 have hget : xs[i]? = some xs[i] := List.getElem?_eq_getElem hi
 rw [hel, hdl, hvl]
 have htl : (cur.take (i * ks.length + off)).length = i * ks.length + off := by simp; omega
 have out1 : ∀ q, q < i * ks.length + off → (cur.take (i * ks.length + off) ++ vs ++ cur.drop (i * ks.length + off + m))[q]? = cur[q]? := by
  intro q hq
  rw [List.append_assoc, List.getElem?_append_left (by omega), List.getElem?_take, if_pos hq]
 have out2 : ∀ q, i * ks.length + off + m ≤ q → (cur.take (i * ks.length + off) ++ vs ++ cur.drop (i * ks.length + off + m))[q]? = cur[q]? := by
  intro q hq
  rw [List.append_assoc, List.getElem?_append_right (by omega), htl, List.getElem?_append_right (by omega), List.getElem?_drop]
  congr 1; omega
 have out3 : ∀ q, q < m → (cur.take (i * ks.length + off) ++ vs ++ cur.drop (i * ks.length + off + m))[i * ks.length + off + q]? = vs[q]? := by
  intro q hq
  rw [List.append_assoc, List.getElem?_append_right (by omega), htl, List.getElem?_append_left (by omega)]
  congr 1; omega
 refine ⟨fun el hmem => ?_, fun j el i' d k h1 h2 h3 => ?_⟩
 ·rcases List.mem_or_eq_of_mem_set hmem with hmem | rfl
  ·exact h.1 el hmem
  ·simp [hell, hdl]; omega
 ·have hi' := (List.getElem?_eq_some_iff.1 h3).1
  rw [List.getElem?_set] at h1
  by_cases hij : i = j
  ·subst hij
   simp only [if_true, hi] at h1
   obtain rfl := Option.some.inj h1
   have htk : (xs[i].take off).length = off := by simp; omega
   by_cases c1 : i' < off
   ·rw [List.append_assoc, List.getElem?_append_left (by omega), List.getElem?_take, if_pos c1] at h2
    obtain ⟨u, hu, hdr⟩ := h.2 i _ i' d k hget h2 h3
    exact ⟨u, by rw [out1 _ (by omega)]; exact hu, hdr⟩
   ·by_cases c2 : i' < off + m
    ·rw [List.append_assoc, List.getElem?_append_right (by omega), htk, List.getElem?_append_left (by omega)] at h2
     have h3' : kt[i' - off]? = some k := by
      rw [← hkt, List.getElem?_take, if_pos (by omega), List.getElem?_drop, ← h3]
      congr 1; omega
     obtain ⟨u, hu, hdr⟩ := hd.get h2 h3'
     refine ⟨u, ?_, hdr⟩
     have := out3 (i' - off) (by omega)
     rw [← hu, ← this]
     congr 1; omega
    ·rw [List.append_assoc, List.getElem?_append_right (by omega), htk, List.getElem?_append_right (by omega), List.getElem?_drop] at h2
     rw [show off + m + (i' - off - ds.length) = i' by omega] at h2
     obtain ⟨u, hu, hdr⟩ := h.2 i _ i' d k hget h2 h3
     exact ⟨u, by rw [out2 _ (by omega)]; exact hu, hdr⟩
  ·rw [if_neg hij] at h1
   obtain ⟨u, hu, hdr⟩ := h.2 j el i' d k h1 h2 h3
   refine ⟨u, ?_, hdr⟩
   rcases Nat.lt_or_gt_of_ne hij with hlt | hlt
   ·have := Nat.mul_le_mul_right ks.length (show i + 1 ≤ j from hlt)
    rw [Nat.add_mul] at this
    rw [out2 _ (by omega)]; exact hu
   ·have := Nat.mul_le_mul_right ks.length (show j + 1 ≤ i from hlt)
    rw [Nat.add_mul] at this
    rw [out1 _ (by omega)]; exact hu
theorem akj (EO : dE P E) {dst t x y ty pos af g} : OpS P E Γ ⟨dst, .store t x y, ty, pos, af, g⟩ := by
 intro X G st a w tr po next Q h R hd _ hk _
 obtain ⟨v1, tr1, h1, hr1, h2⟩ := cU R (show prE Γ (ev x fun a => ev y fun v => eC E t fun ti => afS ti a v) st tr = some po from h)
 obtain ⟨v2, tr2, h3, hr2, h4⟩ := cU R h2
 obtain ⟨ti, hti, h5⟩ := dP h4
 have hT := EO.ty t ti hti
 clear h4 h2 h
 have hrun : ∀ {w' : World}, (Instr.storeAt t (a.eval x) (a.eval y)).run P w = .ok () w' → (execOp a.eval ⟨dst, .store t x y, ty, pos, af, g⟩).run P w = .ok .skip w' := by
  intro w' hh
  simp only [execOp, Sem.run_bind, hh, Result.andThen_ok, Sem.run_pure, pure]
  rfl
 generalize hux : a.eval x = ux at h1 hrun
 cases h1 <;> simp only [afS] at h5 <;> first | exact (aY h5).elim | skip
 case ptr b off =>
  obtain ⟨hc, h6⟩ := bS h5
  simp only [Bool.and_eq_true] at hc
  have hlen := Nat.eq_of_beq_eq_true hc.1
  obtain ⟨tr3, hex, h7⟩ := ads h6
  have := eR h7; subst this
  have hcs : AVRs G w (cellsOf v2) (a.eval y).cells.toList := zR h3 (ade hc.2) R.rv1
  have hul : (a.eval y).cells.toList.length = (cellsOf v2).length := hcs.length.symm
  have hsz : (a.eval y).cells.size = ti.ks.length := by rw [← hlen, ← hul]; simp
  have hone : ∀ u ∈ (a.eval y).cells.toList, u.oneCell' = true := by
   intro u hu
   obtain ⟨i, hi, rfl⟩ := List.getElem_of_mem hu
   have hi' : i < (cellsOf v2).length := by omega
   obtain ⟨u', h8, h9⟩ := hcs.get (List.getElem?_eq_getElem hi')
   rw [List.getElem?_eq_getElem hi] at h8
   obtain rfl := Option.some.inj h8
   exact h9.qI ((List.all_eq_true.1 hc.2) _ (List.getElem_mem hi')) R.rv1
  rcases Nat.eq_zero_or_pos (cellsOf v2).length with h0 | h0
  ·have e1 : cellsOf v2 = [] := List.eq_nil_of_length_eq_zero h0
   have e2 : (a.eval y).cells.toList = [] := List.eq_nil_of_length_eq_zero (by omega)
   refine adB (w' := w) (hrun (zV hT hsz (by rw [e2]; simp [storeCells, pure]))) (hk _ _ _ rfl G _ _ (Rel.putDst ?_ hd (.dead _) (by simp [AV.refs])))
   rw [e1]; exact R
  ·obtain ⟨t', n, cur, hb, hh, _⟩ := R.ako (hex 0 h0)
   have hfit : off + (cellsOf v2).length ≤ cur.size := by
    obtain ⟨t2, n2, cur2, hb2, hh2, hu2⟩ := R.ako (hex ((cellsOf v2).length - 1) (by omega))
    rw [hh] at hh2; injection hh2 with hh2; injection hh2 with hh2; subst hh2
    omega
   have hst := run_storeCells_at P (G.bb b) off t' (a.eval y).cells.toList 0 cur w hh (by omega) hone
   simp only [Nat.add_zero] at hst
   exact adB (hrun (zV hT hsz hst)) (hk _ _ _ rfl G _ _ ((R.ahs hb hh hcs hc.2 (by rw [xK]; exact hr2) hfit).putDst hd (.dead _) (by simp [AV.refs])))
 case rp r i off gb b0 n c hv hi =>
  obtain ⟨G1, st1, ds, tr3, R1, g1, s1, hds, h6⟩ := aej R h3 h5
  simp only [prE] at h6
  split at h6
  ·rename_i ks e by_ xs hrr
   obtain ⟨hc, h7⟩ := bS h6
   simp only [Bool.and_eq_true] at hc
   have hle := Nat.le_of_ble_eq_true hc.1.1
   have hkt := dY hc.1.2
   have hel := Nat.le_of_ble_eq_true hc.2
   simp only [prE] at h7
   obtain rfl := Option.some.inj h7.symm
   obtain ⟨q1, q2, q3, q46, q5⟩ := R1.rw r _ _ _ _ _ hrr
   obtain ⟨q4, q6⟩ := q46.z hel
   have hv1 : G1.rv r = .slice (some ⟨gb, b0, none⟩) n c := by rw [g1.rv]; exact hv
   have hrs : G.rs r = ks.length := by rw [← g1.rs]; exact q1
   rcases q6 with ⟨b, hval, rfl⟩ | ⟨g', c', cur, hval, hcc, hh, z4, z5, z6, z7⟩
   ·rw [hv1] at hval; injection hval with e1 e2 e3; omega
   ·have hval' := hval
    rw [hv1] at hval; injection hval with e1 e2 e3
    injection e1 with e1; injection e1 with e1 e1'
    subst e1; subst e1'; subst e3; subst e2
    have hfl : Flat G1.F w ks xs cur.toList := ⟨q4, fun j el i d k p1 p2 p3 => by obtain ⟨u, hu, hd⟩ := z7 j el i d k p1 p2 p3; exact ⟨u, by simpa using hu, hd⟩⟩
    have hic : i * ks.length + ks.length ≤ cur.size := by
     have := Nat.mul_le_mul_right ks.length (show i + 1 ≤ c by omega)
     rw [Nat.add_mul] at this; omega
    have hvl : (a.eval y).cells.toList.length = ti.ks.length := hds.len.2
    have hsz : (a.eval y).cells.size = ti.ks.length := by simpa using hvl
    have hst := run_storeCells_at P gb (i * ks.length + off) e (a.eval y).cells.toList 0 cur w hh (by omega) hds.qI
    simp only [Nat.add_zero] at hst
    have hfl' := amr (ds := ds) (vs := (a.eval y).cells.toList) (i := i) (off := off) (m := ti.ks.length) hfl hds hkt rfl hle hi (by simpa using hic)
    rw [hrs, Nat.zero_add] at hrun
    refine adB (hrun (zV hT hsz hst)) (hk _ _ _ rfl G1 _ _ (Rel.putDst (agD R1 hel hrr hval' hcc hh (xs' := xs.set i ((elemAt xs i).take off ++ ds ++ (elemAt xs i).drop (off + ds.length)))
     (cur' := cur.toList.take (i * ks.length + off) ++ (a.eval y).cells.toList ++ cur.toList.drop (i * ks.length + off + (a.eval y).cells.toList.length)) (by simp) ?_ hfl') hd (.dead _) (by simp [AV.refs])))
    simp; omega
  ·cases h6
theorem akT {dst x ty pos af g} : OpS P E Γ ⟨dst, .panic x, ty, pos, af, g⟩ := by
 intro X G st a w tr po next Q h R hd _ _ hp
 obtain ⟨v1, tr1, h1, hr1, h2⟩ := cU R (show prE Γ (ev x fun | .ifc t v => .pan (.ifc t v) | _ => .fail) st tr = some po from h)
 generalize hux : a.eval x = ux at h1
 cases h1 <;> simp only at h2 <;> first | exact (aY h2).elim | skip
 case ifc t v u hv =>
  simp only [prE] at h2
  obtain rfl := Option.some.inj h2.symm
  refine akA (u := .iface t u) (w' := w) ?_ (hp _ _ rfl _ _ ⟨G, G, _, rfl, .ifc t v u hv, R.base, R.box⟩)
  simp [execOp, hux, Instr.panic, goPanic]
end
end PX
set_option linter.unusedVariables false
set_option linter.unusedSimpArgs false
namespace PX
open Go
section
variable {P : Program} {E : Env} {Γ : Fun} {X : Ctx} {G : Gh} {st : Sto} {a : Act} {w : World} {tr : Tr} {po : PO}
 {next : Act → World → Prop} {Q : Exit → Act → World → Prop} {o : Oper}
theorem RowZ.head {F : Nat → Prop} {ks e xs v} (h : RowZ F w ks e xs v) {n : Nat} (hn : n ≤ xs.length) : ∃ base c, v = .slice base xs.length c ∧ xs.length ≤ c ∧ (base = none ∨ ∃ g, base = some ⟨g, 0, none⟩ ∨ c = 0) ∧ RowZ F w ks e (xs.take n) (.slice base n c) ∧ rowBlk (.slice base n c) = rowBlk v := by
 obtain ⟨h1, h2⟩ := h
 have h1' : ∀ el ∈ xs.take n, el.length = ks.length := fun el hel => h1 el (List.mem_of_mem_take hel)
 rcases h2 with ⟨ad, rfl, rfl⟩ | ⟨g, c, cur, rfl, hc, hh, hlc, hcm, hsz, hcell⟩
 ·have : n = 0 := by simpa using hn
  subst this
  exact ⟨ad, 0, rfl, Nat.le_refl _, .inr ⟨0, .inr rfl⟩, ⟨by simp, .inl ⟨ad, rfl, by simp⟩⟩, rfl⟩
 ·refine ⟨_, c, rfl, hlc, .inr ⟨g, .inl rfl⟩, ⟨h1', .inr ⟨g, c, cur, ?_, hc, hh, ?_, hcm, hsz, fun j el i d k z1 z2 z3 => ?_⟩⟩, rfl⟩
  ·rw [List.length_take, Nat.min_eq_left hn]
  ·rw [List.length_take]; omega
  ·rw [List.getElem?_take] at z1
   split at z1
   ·exact hcell j el i d k z1 z2 z3
   ·cases z1
theorem RowO.tail {F : Nat → Prop} {ks e xs v} (h : RowO F w ks e xs v) {n : Nat} (hn : n ≤ xs.length) : ∃ base c, v = .slice base xs.length c ∧ xs.length ≤ c ∧
  RowO F w ks e (xs.drop n) (.slice (if c = n then base else base.map (·.add (n * ks.length))) (xs.length - n) (c - n)) ∧
  (∀ g, rowBlk (.slice (if c = n then base else base.map (·.add (n * ks.length))) (xs.length - n) (c - n)) = some g → rowBlk v = some g) := by
 obtain ⟨h1, h2⟩ := h
 have h1' : ∀ el ∈ xs.drop n, el.length = ks.length := fun el hel => h1 el (List.mem_of_mem_drop hel)
 rcases h2 with ⟨ad, rfl, rfl⟩ | ⟨g, o, c, cur, rfl, hc, hh, hlc, hcm, hsz, hcell⟩
 ·have h0 : n = 0 := by simpa using hn
  subst h0
  refine ⟨ad, 0, rfl, Nat.le_refl _, ⟨by simp, .inl ⟨ad, by simp, by simp⟩⟩, fun g hg => ?_⟩
  cases ad <;> simp [rowBlk] at hg
 ·refine ⟨_, c, rfl, hlc, ?_, fun g' hg' => ?_⟩
  ·by_cases hz : c = n
   ·rw [if_pos hz]
    have : xs.length - n = 0 := by omega
    have h0 : c - n = 0 := by omega
    rw [this, h0]
    exact ⟨h1', .inl ⟨_, rfl, List.eq_nil_of_length_eq_zero (by rw [List.length_drop]; exact this)⟩⟩
   ·rw [if_neg hz]
    have hadd : (some (⟨g, o, none⟩ : Addr)).map (·.add (n * ks.length)) = some ⟨g, o + n * ks.length, none⟩ := by rw [Option.map_some, add_lit]
    rw [hadd]
    refine ⟨h1', .inr ⟨g, o + n * ks.length, c - n, cur, by rw [List.length_drop], by omega, hh, by rw [List.length_drop]; omega, by omega, ?_, fun j el i d k z1 z2 z3 => ?_⟩⟩
    ·rw [hsz, Nat.sub_mul]
     have := Nat.mul_le_mul_right ks.length (show n ≤ c by omega)
     omega
    ·rw [List.getElem?_drop] at z1
     obtain ⟨u, hu, hd⟩ := hcell (n + j) el i d k z1 z2 z3
     refine ⟨u, ?_, hd⟩
     rw [← hu]; congr 1; rw [Nat.add_mul]; omega
  ·by_cases hz : c = n
   ·have h0 : c - n = 0 := by omega
    rw [if_pos hz, h0] at hg'
    simp [rowBlk] at hg'
   ·rw [if_neg hz, Option.map_some, add_lit] at hg'
    simp only [rowBlk] at hg' ⊢
    rw [if_neg (by omega)] at hg'
    rw [if_neg (by omega)]
    exact hg'
theorem akv (EO : dE P E) {dst t x lo hi mx ty pos af g} : OpS P E Γ ⟨dst, .slice t x lo hi mx, ty, pos, af, g⟩ := by
 cases hcut : (E.cut (dst.getD 9999) t && lo.isNone && hi.isSome) with
 | false =>
  cases hflg : (E.flg (dst.getD 9999) t && lo.isSome && hi.isNone && mx.isNone) with
  | false => exact ajw EO hcut hflg
  | true =>
   simp only [Bool.and_eq_true, Option.isSome_iff_exists, Option.isNone_iff_eq_none] at hflg
   obtain ⟨⟨⟨hfl, lo', rfl⟩, rfl⟩, rfl⟩ := hflg
   intro X G st a w tr po next Q h R hd _ hk _
   replace h : prE Γ (if (E.cut (dst.getD 9999) t && (some lo').isNone && (none : Option Operand).isSome) then (ev x fun a => evO (some lo') fun lo => evO none fun hi => evO none fun mx => cV E t fun e ei => yN (dst.getD 9999) e ei a lo hi mx) else
    if E.flg (dst.getD 9999) t && (some lo').isSome && (none : Option Operand).isNone && (none : Option Operand).isNone then (ev x fun a => evO (some lo') fun lo => cV E t fun e ei => vN (dst.getD 9999) e ei a lo) else
    (ev x fun a => evO (some lo') fun lo1 => evO none fun hi1 => evO none fun mx1 => eC E t fun ti => if isStr ti then uZ a lo1 hi1 mx1 else cV E t fun _ ei => wY (isConst (none : Option Operand) && isConst (none : Option Operand)) ei.ks.length a lo1 hi1 mx1)) st tr = some po := h
   rw [hcut, hfl] at h
   simp only [Bool.false_eq_true, if_false, Option.isSome_some, Option.isNone_none, Bool.and_self, if_true] at h
   obtain ⟨v1, tr1, h1, hr1, h2⟩ := cU R h
   obtain ⟨nl, tr2, hl, h3⟩ := uH R h2
   obtain ⟨e, ei, hei, hu, h6⟩ := hQ EO h3
   have hel := pR EO h3 hu
   have hT := EO.ty e ei hei
   clear h3 h2 h
   unfold vN at h6
   split at h6
   ·rename_i r n
    simp only [prE] at h6
    split at h6
    ·rename_i ks e' by_ xs hrr
     obtain ⟨hc, h7⟩ := bS h6
     simp only [Bool.and_eq_true, Bool.not_eq_true'] at hc
     obtain ⟨⟨hc1, hc2⟩, hc3⟩ := hc
     obtain rfl := dY hc1
     obtain ⟨hb, h8⟩ := eO h7
     simp only [Bool.and_eq_true, decide_eq_true_eq] at hb
     simp only [prE] at h8
     obtain ⟨hk1, hk0, hf, tr', rfl⟩ := qR h8
     obtain ⟨q1, q2, q3, q4, q5⟩ := R.rw r _ _ _ _ _ hrr
     have q4' : RowO G.F w ei.ks e xs (G.rv r) := by
      rcases Bool.or_eq_true_iff.1 hc2 with q | q
      ·obtain rfl := Nat.eq_of_beq_eq_true q; exact (q4.z hel).o
      ·rw [← Nat.eq_of_beq_eq_true q] at q4; exact q4.om
     obtain ⟨base, c, hv, hlc, hv', hblk⟩ := q4'.tail (n := n.toNat) (by omega)
     have hbp : prE Γ (jD xs.length (some n) none none fun _ _ => .done .nil) st tr2 = some (.val .nil st tr2) := by
      simp [jD, prE]
      have : (decide (0 ≤ n) && decide (n ≤ (xs.length : Int))) = true := by simp [hb.1, hb.2]
      first | (rw [this]; rfl) | simp [hb.1, hb.2]
     obtain ⟨l, h', _, hcut'⟩ := jL (P := P) (w := w) hbp
     obtain ⟨m, cut, hrun⟩ := hcut' c hlc
     have hrr' := hrun _ none none true hl trivial trivial
     have e1 := cut.lo; have e2 := cut.hi; have e3 := cut.mxx
     simp at e1 e2 e3
     subst e1; subst e2; subst e3
     have hx0 : ∀ us, AVR G w (.row r) us → us = G.rv r := fun us h => by cases h; rfl
     have hx : a.eval x = .slice base xs.length m := (hx0 _ h1).trans hv
     have hsl := n4 hu hT hrr' (base := base)
     have hrun2 : (execOp a.eval ⟨dst, .slice t x (some lo') none none, ty, pos, af, g⟩).run P w = .ok (.value (.slice (if m = n.toNat then base else base.map (·.add (n.toNat * ei.ks.length))) (xs.length - n.toNat) (m - n.toNat))) w := by
      refine qC (s := Instr.sliceAt t (a.eval x) ((some lo').map a.eval) ((none : Option Operand).map a.eval) ((none : Option Operand).map a.eval)) ?_
      rw [hx]; exact hsl
     obtain ⟨R1, hgone⟩ := R.adQ hrr ((Ext.refl w).but _)
     have hne : r ≠ dst.getD 9999 := by rintro rfl; simp at hc3
     refine fB hrun2 (hk _ _ _ rfl _ _ _ (xE rfl R1 hd hf hk1 hk0 hv'.toV (fun g' hg' => ?_)))
     exact hgone g' (hblk g' hg')
    ·cases h6
   ·exact (aY h6).elim
 | true =>
  intro X G st a w tr po next Q h R hd _ hk _
  replace h : prE Γ (if (E.cut (dst.getD 9999) t && lo.isNone && hi.isSome) then (ev x fun a => evO lo fun lo => evO hi fun hi => evO mx fun mx => cV E t fun e ei => yN (dst.getD 9999) e ei a lo hi mx) else
   if E.flg (dst.getD 9999) t && lo.isSome && hi.isNone && mx.isNone then (ev x fun a => evO lo fun lo => cV E t fun e ei => vN (dst.getD 9999) e ei a lo) else
   (ev x fun a => evO lo fun lo1 => evO hi fun hi1 => evO mx fun mx1 => eC E t fun ti => if isStr ti then uZ a lo1 hi1 mx1 else cV E t fun _ ei => wY (isConst hi && isConst mx) ei.ks.length a lo1 hi1 mx1)) st tr = some po := h
  rw [hcut] at h
  simp only [if_true] at h
  obtain ⟨v1, tr1, h1, hr1, h2⟩ := cU R h
  obtain ⟨nl, tr2, hl, h3⟩ := uH R h2
  obtain ⟨nh, tr3, hh, h4⟩ := uH R h3
  obtain ⟨nm, tr4, hm, h5⟩ := uH R h4
  obtain ⟨e, ei, hei, hu, h6⟩ := hQ EO h5
  have hel := pR EO h5 hu
  have hT := EO.ty e ei hei
  clear h5 h4 h3 h2 h
  unfold yN at h6
  split at h6
  ·rename_i r n
   simp only [prE] at h6
   split at h6
   ·rename_i ks e' by_ xs hrr
    obtain ⟨hc, h7⟩ := bS h6
    simp only [Bool.and_eq_true, Bool.not_eq_true'] at hc
    obtain ⟨⟨hc1, hc2⟩, hc3⟩ := hc
    obtain rfl := dY hc1
    obtain rfl := Nat.eq_of_beq_eq_true hc2
    obtain ⟨hb, h8⟩ := eO h7
    simp only [Bool.and_eq_true, decide_eq_true_eq] at hb
    simp only [prE] at h8
    obtain ⟨hk1, hk0, hf, tr', rfl⟩ := qR h8
    obtain ⟨q1, q2, q3, q4, q5⟩ := R.rw r _ _ _ _ _ hrr
    obtain ⟨base, c, hv, hlc, hbase, hv', hblk⟩ := (q4.z hel).head (n := n.toNat) (by omega)
    have hbp : prE Γ (jD xs.length none (some n) none fun _ _ => .done .nil) st tr4 = some (.val .nil st tr4) := by
     simp [jD, prE]
     have : (decide (0 ≤ n) && decide (n ≤ (xs.length : Int))) = true := by simp [hb.1, hb.2]
     first | (rw [this]; rfl) | simp [hb.1, hb.2]
    obtain ⟨l, h', _, hcut'⟩ := jL (P := P) (w := w) hbp
    obtain ⟨m, cut, hrun⟩ := hcut' c hlc
    have hrr' := hrun _ _ _ true hl hh hm
    have e1 := cut.lo; have e2 := cut.hi; have e3 := cut.mxx
    simp at e1 e2 e3
    subst e1; subst e2; subst e3
    have hx0 : ∀ us, AVR G w (.row r) us → us = G.rv r := fun us h => by cases h; rfl
    have hx : a.eval x = .slice base xs.length m := (hx0 _ h1).trans hv
    have hsl := n4 hu hT hrr' (base := base)
    have hres : (if m = 0 then base else base.map (·.add (0 * ei.ks.length))) = base := by
     split
     ·rfl
     ·rename_i hm0
      rcases hbase with rfl | ⟨g, rfl | h0⟩
      ·rfl
      ·simp [Addr.add]
      ·exact absurd h0 hm0
    rw [hres, Nat.sub_zero, Nat.sub_zero] at hsl
    have hrun2 : (execOp a.eval ⟨dst, .slice t x lo hi mx, ty, pos, af, g⟩).run P w = .ok (.value (.slice base n.toNat m)) w := by
     refine qC (s := Instr.sliceAt t (a.eval x) (lo.map a.eval) (hi.map a.eval) (mx.map a.eval)) ?_
     rw [hx]; exact hsl
    obtain ⟨R1, hgone⟩ := R.adQ hrr ((Ext.refl w).but _)
    have hne : r ≠ dst.getD 9999 := by rintro rfl; simp at hc3
    refine fB hrun2 (hk _ _ _ rfl _ _ _ (xE rfl R1 hd hf hk1 hk0 (hv'.toV hel) (fun g' hg' => ?_)))
    exact hgone g' (by rw [← hblk]; exact hg')
   ·cases h6
  ·exact (aY h6).elim
theorem afF {F : Nat → Prop} {ks : List CK} (hk : ks.all CK.isData = true) (h0 : 0 < ks.length) (n : Nat) :
  Flat F w ks (List.replicate n (ks.map CK.qM)) (Builtin.zeroCells ⟨ks.map CK.zeroV⟩ n).toList := by
 refine ⟨fun el hel => by rw [List.eq_of_mem_replicate hel]; simp, fun j el i d k h1 h2 h3 => ?_⟩
 have hj : j < n := by have := (List.getElem?_eq_some_iff.1 h1).1; simpa using this
 have hi := (List.getElem?_eq_some_iff.1 h3).1
 rw [List.getElem?_replicate, if_pos hj] at h1
 obtain rfl := Option.some.inj h1
 rw [List.getElem?_map, h3] at h2
 obtain rfl : k.qM = d := by simpa using h2
 have hlt : j * ks.length + i < n * ks.length := by
  have : (j + 1) * ks.length ≤ n * ks.length := Nat.mul_le_mul_right _ (by omega)
  rw [Nat.add_mul] at this; omega
 refine ⟨k.zeroV, ?_, ak2 k ((List.all_eq_true.1 hk) k (List.mem_of_getElem? h3))⟩
 have hmod : (j * ks.length + i) % ks.length = i := by
  rw [Nat.add_comm, Nat.add_mul_mod_self_right, Nat.mod_eq_of_lt hi]
 have hk' := List.getElem?_eq_getElem hi
 rw [h3] at hk'
 simp [Builtin.zeroCells, hlt, hmod, getElem!_def, hi, ← Option.some.inj hk']
theorem akO (EO : dE P E) {dst x t ty pos af g} : OpS P E Γ ⟨dst, .call ⟨.builtin .clear, ⟨[x]⟩, ⟨[t]⟩⟩, ty, pos, af, g⟩ := by
 intro X G st a w tr po next Q h R hd _ hk _
 obtain ⟨v1, tr1, h1, hr1, h2⟩ := cU R (show prE Γ (ev x fun x => cV E t fun _ ei => afq ei x) st tr = some po from h)
 obtain ⟨e, ei, hei, htu, h3⟩ := hQ EO h2
 have hT := EO.ty e ei hei
 unfold afq at h3
 split at h3
 ·rename_i r lo n
  simp only [prE] at h3
  split at h3
  ·rename_i ks e' by_ xs hrr
   obtain ⟨hc, h4⟩ := bS h3
   simp only [Bool.and_eq_true, Bool.not_eq_true'] at hc
   obtain ⟨⟨⟨hc1, hc2⟩, hc3⟩, hc4⟩ := hc
   have hel := Nat.le_of_ble_eq_true hc4
   obtain rfl := dY hc1
   simp only [prE] at h4
   obtain rfl := Option.some.inj h4.symm
   obtain ⟨q1, q2, q3, q4, q5⟩ := R.rw r _ _ _ _ _ hrr
   obtain ⟨i0, hi0, hzs, hzb, z, hz0, hzc⟩ := hT.info
   generalize hus : a.eval x = us at h1
   cases h1 with
   | win _ _ _ b a' n0 c0 c' hv hn hc' ha =>
    have hn0 : n0 = xs.length := by
     obtain ⟨_, q6⟩ := q4.z hel
     rcases q6 with ⟨b, hval, rfl⟩ | ⟨g, c, cur, hval, _⟩ <;> rw [hval] at hv <;> injection hv with e1 e2 <;> exact e2.symm
    have hlen : (List.replicate n (ei.ks.map CK.qM)).length = n := by simp
    obtain ⟨w', k1, k2, k3⟩ := acz (P := P) R hel hrr (base := a') (lo := lo) (zs := List.replicate n (ei.ks.map CK.qM)) (us := (Builtin.zeroCells ⟨ei.ks.map CK.zeroV⟩ n).toList)
     (afF hc3 q2 n) (by simp [size_zeroCells]) (by rw [hlen]; omega) (fun hpos g c' hv' => by
      rw [hlen] at hpos
      rw [hv] at hv'; injection hv' with e1
      have := ha hpos _ e1
      rw [this, q1, add_lit, Nat.zero_add])
    rw [hlen] at k3
    have hrun : (Builtin.clear_ #[t] ty #[.slice a' n c']).run P w = .ok (.tuple #[]) w' := by
     rcases Nat.eq_zero_or_pos n with h0 | hp
     ·subst h0
      cases a' with
      | none => have := k2 rfl; subst this; simp [Builtin.clear_, run_underlying htu]
      | some ad =>
       have hst := k1 ad rfl
       have h0 : (Builtin.zeroCells ⟨ei.ks.map CK.zeroV⟩ 0).toList = [] := by simp [Builtin.zeroCells]
       rw [h0] at hst
       have h1 : (storeCells ad []).run P w = .ok () w := by simp [storeCells, pure]
       rw [h1] at hst
       have hw : w' = w := by injection hst with _ h; exact h.symm
       subst hw
       simp [Builtin.clear_, run_underlying htu]
     ·cases a' with
      | none => have := k2 rfl; subst this; simp [Builtin.clear_, run_underlying htu]
      | some ad =>
       obtain ⟨m, rfl⟩ : ∃ m, n = m + 1 := ⟨n - 1, by omega⟩
       have hst := k1 ad rfl
       have hzv : (zeroValue e).run P w = .ok z w := by simp [zeroValue, typeInfo, hi0, hz0]
       simp [Builtin.clear_, run_underlying htu, hzv, hzc, hst]
    have hrun2 : (execOp a.eval ⟨dst, .call ⟨.builtin .clear, ⟨[x]⟩, ⟨[t]⟩⟩, ty, pos, af, g⟩).run P w = .ok (.value (.tuple #[])) w' := by
     simp only [execOp, resolve, invoke, builtin, Sem.run_bind, Sem.run_pure, Result.andThen_ok]
     have : (⟨[x]⟩ : Array Operand).map a.eval = #[a.eval x] := by simp
     rw [this, hus, hrun]; rfl
    exact fB hrun2 (hk _ _ _ rfl G _ _ (Rel.putDst k3 hd (.dead _) (by simp [AV.refs])))
  ·cases h3
 ·exact (aY h3).elim
end
end PX
set_option linter.unusedVariables false
set_option linter.unusedSimpArgs false
namespace PX
open Go
section
variable {P : Program} {E : Env} {Γ : Fun} {Λ : Code → Sto → (Ex → Sto → Res) → Res} {X : Ctx} {G : Gh} {st : Sto} {a : Act} {w : World} {tr : Tr} {po : PO}
 {next : Act → World → Prop} {Q : Exit → Act → World → Prop} {o : Oper}
def FOK (X : Ctx) : Prop := ∀ k, X.F0 k → k < X.B ∧ ¬ X.M k
def aag (P : Program) (E : Env) (Γ : Fun) : Prop := ∀ nt o, xH nt o = true → OpS P E Γ o
theorem adI {nt : Nat} {o : Oper} (h : xH nt o = true) : ∀ d, o.dst = some d → d < nt := by
 intro d hd
 unfold xH at h
 rw [hd] at h
 exact Nat.le_of_ble_eq_true h
def aeA : Value → Option Bool | .bool b => some b | _ => none
theorem tB {ops : Array Oper} {j t : Nat} {v : Value} (hj : (ops[j]?).bind (·.dst) = some t) (ht : t < a.tmps.size) (hv : a.tmps.getD t undef = v) :
  yielded ops a.tmps j = aeA v := by
 unfold yielded
 rw [hj]
 have : a.tmps[t]? = some v := by
  rw [← hv]
  simp [Array.getD_eq_getD_getElem?, Array.getElem?_eq_getElem ht]
 simp only [Option.bind_some, this]
 cases v <;> rfl
theorem Rel.undf (R : Rel X G st a w) {dst : Option Nat} (hd : ∀ d, dst = some d → d < X.nt) : Rel X G (PX.putDst st dst .undf) (a.put dst undef) w :=
 R.putDst hd .undf (by simp [AV.refs])
theorem xQ (hops : aag P E Γ) (hF : FOK X) {ops : Array Oper} {k : Sto → List Tr → Res} {kp : AV → Sto → List Tr → Res} {out : Out}
  (hk : ∀ st' ts', k st' ts' = some out → ∀ G' a' w', Rel X G' st' a' w' → Q .normal a' w')
  (hp : ∀ v S ts', kp v S ts' = some out → ∀ chain a' w', abX X S a' v chain w' → Q (.panic chain) a' w') :
  ∀ (l : List Oper) (st : Sto) (ts : List Tr) (G : Gh) (a : Act) (w : World), l.all (xH X.nt) = true → dJ E Γ ops l st ts k kp = some out → Rel X G st a w → wpList P ops Q l a w
 | [], st, ts, G, a, w, ho, h, R => hk _ _ h _ _ _ R
 | o :: r, st, ts, G, a, w, ho, h, R => by
  simp only [List.all_cons, Bool.and_eq_true] at ho
  have hd := adI ho.1
  have run : ∀ (tr : Tr), gI Γ (iR E o) st tr (fun v st' tr => dJ E Γ ops r (putDst st' o.dst v) (fK tr o.dst :: ts) k kp) (fun v S tr => kp v S (tr :: ts)) = some out → o.wp P a w (wpList P ops Q r) Q := by
   intro tr hr
   rw [uK] at hr
   obtain ⟨po, hpo, hr⟩ := Option.bind_eq_some_iff.1 hr
   refine hops X.nt o ho.1 X G st a w tr po _ Q hpo R hd hF ?_ ?_
   ·intro v st' tr' e G' a' w' R'
    subst e
    exact xQ hops hF hk hp r _ _ _ _ _ ho.2 hr R'
   ·intro v S e chain w' hpan
    subst e
    exact hp v S _ hr chain a w' hpan
  have skip : ∀ (st' : Sto) (ts' : List Tr), Rel X G st' a w → dJ E Γ ops r (putDst st' o.dst .undf) ts' k kp = some out → wpList P ops Q r (a.put o.dst undef) w :=
   fun st' ts' R' hr => xQ hops hF hk hp r _ _ _ _ _ ho.2 hr (R'.undf hd)
  unfold wpList
  unfold dJ at h
  split at h
  ·rename_i hg
   have hw : Region.wanted o (yielded ops a.tmps) = true := by simp [Region.wanted, hg]
   rw [if_pos hw]
   exact .inl (run _ h)
  ·rename_i j want hg
   split at h
   ·cases h
   ·rename_i t ht
    split at h
    ·rename_i b hb
     obtain ⟨htlt, hav⟩ := R.tm t _ hb
     have hy := tB ht (by rw [R.sz]; exact htlt) hav.mT
     simp only [aeA] at hy
     have hwant : Region.wanted o (yielded ops a.tmps) = (b == want) := by
      simp only [Region.wanted, hg, hy]
      cases b <;> cases want <;> rfl
     rw [hwant]
     cases b <;> cases want <;> simp only [if_true, if_false, Bool.false_eq_true, beq_self_eq_true, show (true == false) = false from rfl, show (false == true) = false from rfl, show (false == false) = true from rfl] at h ⊢ <;> rw [aeH _ hb] at h <;>
      first | exact .inl (run _ h) | exact skip _ _ R h
    ·rename_i hb
     obtain ⟨htlt, hav⟩ := R.tm t _ hb
     have hu : a.tmps.getD t undef = undef := by
      generalize a.tmps.getD t undef = uu at hav
      cases hav; rfl
     have hy := tB ht (by rw [R.sz]; exact htlt) hu
     have hwant : Region.wanted o (yielded ops a.tmps) = false := by
      simp only [Region.wanted, hg, hy]
      rfl
     rw [hwant]
     simpa using skip _ _ R h
    ·cases h
def adM (X : Ctx) (K : Ex → Sto → Res) (out : Out) : Exit → Act → World → Prop
 | .normal, a, w => ∃ G st, Rel X G st a w ∧ K .normal st = some out
 | .exit i, a, w => ∃ G st, Rel X G st a w ∧ K (.exit i) st = some out
 | .ret, a, w => ∃ G st, Rel X G st a w ∧ K .ret st = some out
 | .panic chain, a, w => ∃ v st G H u, chain = [{ v := u, recovered := false }] ∧ AVR G w v u ∧ Base X G.F w ∧ Rel X H st a w ∧ K (.pan v) st = some out
 | _, _, _ => False
def ag2 (P : Program) (E : Env) (Λ : Code → Sto → (Ex → Sto → Res) → Res) : Prop :=
 ∀ b st K out, Λ b st K = some out → ∀ X G a w, FOK X → codeOk X.nt b = true → Rel X G st a w → (Code.loop b).wp P (adM X K out) a w
def aeQ (P : Program) (E : Env) (Γ : Fun) : Prop :=
 ∀ (ops : Array Oper) (st : Sto) (k : Sto → Res) (kp : AV → Res) (out : Out), dJ E Γ ops ops.toList st [] (fun st' ts => if gA ops && jP (Region.before ops) ts then k st' else none) (fun v S ts => if gA ops && vH ops ts then kp v else none) = some out →
  ∀ id X G a w Q, FOK X → ops.toList.all (xH X.nt) = true → Rel X G st a w → (∀ st', k st' = some out → ∀ G' a' w', Rel X G' st' a' w' → Q .normal a' w') → (∀ v, kp v = some out → ∀ chain a' w' S, abX X S a' v chain w' → Q (.panic chain) a' w') → (Code.region id ops true).wp P Q a w
def afQ (P : Program) (E : Env) : Prop := ∀ h st st', canon h st = some st' → ∀ X G a w, FOK X → Rel X G st a w → ∃ G', Rel X G' st' a w
theorem step_scope {P : Program} {b : Frame} {a : Act} {k : List Item} {cs : List Frame} {w : World} {c : Code} :
  step P (lone (b.at a (.code (.scope c) :: k)) cs w) = .next (lone (b.at a (.code c :: .inScope c :: k)) cs w) :=
 step_lone_go (by simp [stepG, stepG.exec, Frame.at])
theorem step_inScope {P : Program} {b : Frame} {a : Act} {k : List Item} {cs : List Frame} {w : World} {c : Code} :
  step P (lone (b.at a (.inScope c :: k)) cs w) = .next (lone (b.at a k) cs w) :=
 step_lone_go (by simp [stepG, stepG.exec, Frame.at])
theorem alI {P : Program} {Q : Exit → Act → World → Prop} {a : Act} {w : World} {c : Code} (hg : ∀ l a w, ¬ Q (.goto l) a w) (h : c.wp P Q a w) : (Code.scope c).wp P Q a w := by
 intro b k cs
 obtain ⟨e, a₁, w₁, hq, harr⟩ := h b (.inScope c :: k) cs
 cases e with
 | normal => exact ⟨.normal, a₁, w₁, hq, .head step_scope (Steps.trans harr (.one step_inScope))⟩
 | exit id => exact ⟨.exit id, a₁, w₁, hq, fun k' hk => .head step_scope (harr k' (by simp [exitTo, hk]))⟩
 | goto l => exact absurd hq (hg l a₁ w₁)
 | ret => exact ⟨_, a₁, w₁, hq, .of_steps (.one step_scope) harr⟩
 | panic ch => exact ⟨_, a₁, w₁, hq, .of_steps (.one step_scope) harr⟩
 | outgrown => exact ⟨_, a₁, w₁, hq, .of_steps (b := b) (k := k) (cs := cs) (e := .outgrown) (.one step_scope) harr⟩
theorem acf {x y : Res} {o : Out} (h : vA x y = some o) : x = some o ∧ y = some o := by
 unfold vA at h
 split at h
 ·rename_i e; exact ⟨h, e ▸ h⟩
 ·cases h
theorem Rel.aoL {X : Ctx} {G : Gh} {st : Sto} {a : Act} {w : World} (R : Rel X G st a w) {i : Nat} {v : AV} {b : Bool} (hi : st (.tm i) = .av v) (hb : a.tmps.getD i undef = .bool b) : Rel X G (st.upd (.tm i) (.av (.d (.bool b)))) a w := by
 have ne : ∀ l, (∀ j, l ≠ .tm j) → (st.upd (.tm i) (.av (.d (.bool b)))) l = st l := fun l hl => aP _ _ (Ne.symm (hl i))
 have hbl : ∀ l, blk G (st.upd (.tm i) (.av (.d (.bool b)))) l = blk G st l := by
  intro l
  cases l <;> simp only [blk] <;> first | rfl | (rw [ne _ (by intro j; exact Loc.noConfusion)])
 refine ⟨R.base, R.defers, R.sz, fun j u hj => ?_, fun c t n h => R.bx c t n (by rwa [ne _ (by intro j; exact Loc.noConfusion)] at h), fun c o u h => ?_, fun r ks e by_ xs fz h => R.rw r ks e by_ xs fz (by rwa [ne _ (by intro j; exact Loc.noConfusion)] at h),
  fun j s p h => R.it j s p (by rwa [ne _ (by intro j; exact Loc.noConfusion)] at h), fun l u h l' hl' => ?_, fun l l' k h1 h2 => R.inj l l' k (by rwa [hbl] at h1) (by rwa [hbl] at h2), fun l k h => R.own l k (by rwa [hbl] at h), R.rv1, fun k t n h => R.lent k t n (by rwa [ne _ (by intro j; exact Loc.noConfusion)] at h)⟩
 ·by_cases e : j = i
  ·subst e
   rw [l6] at hj
   obtain rfl : AV.d (.bool b) = u := by simpa using hj
   exact ⟨(R.tm _ _ hi).1, by rw [hb]; exact .d (.bool b)⟩
  ·rw [aP _ _ (by intro h; exact e (Loc.tm.inj h).symm)] at hj
   exact R.tm j u hj
 ·rw [ne _ (by intro j; exact Loc.noConfusion)] at h
  obtain ⟨t, n, cs, u', q1, q2⟩ := R.bc c o u h
  exact ⟨t, n, cs, u', by rw [ne _ (by intro j; exact Loc.noConfusion)]; exact q1, q2⟩
 ·have hne : st l' ≠ .none := by
   by_cases e : l = .tm i
   ·subst e
    rw [l6] at h
    obtain rfl : AV.d (.bool b) = u := by simpa using h
    simp [AV.refs] at hl'
   ·rw [aP _ _ (Ne.symm e)] at h
    exact R.reg l u h l' hl'
  by_cases e : l' = .tm i
  ·subst e; rw [l6]; simp
  ·rw [aP _ _ (Ne.symm e)]; exact hne
theorem aec (EO : dE P E) (hops : aag P E Γ) (hL : ag2 P E Λ) (hdraw : aeQ P E Γ) (hcan : afQ P E) {hr : Nat → Option Hint} {out : Out} (hF : FOK X) :
  ∀ (c : Code) (st : Sto) (K : Ex → Sto → Res) (G : Gh) (a : Act) (w : World), codeOk X.nt c = true → exec E Γ Λ hr c st K = some out → Rel X G st a w → c.wp P (adM X K out) a w := by
 intro c
 induction c with
 | skip => intro st K G a w _ h R; exact wp_skip ⟨G, st, R, by simpa [exec] using h⟩
 | label l => intro st K G a w _ h R; exact wp_label ⟨G, st, R, by simpa [exec] using h⟩
 | exit i => intro st K G a w _ h R; exact wp_exit ⟨G, st, R, by simpa [exec] using h⟩
 | ret => intro st K G a w _ h R; exact wp_ret ⟨G, st, R, by simpa [exec] using h⟩
 | region id ops draw =>
  intro st K G a w hc h R
  simp only [codeOk] at hc
  have go : ∀ (st : Sto) (G : Gh), Rel X G st a w → dJ E Γ ops ops.toList st [] (fun st' ts =>
   if draw then (if gA ops && jP (Region.before ops) ts then K .normal st' else none) else K .normal st') (fun v S ts => if draw then (if gA ops && vH ops ts then K (.pan v) Sto.nil else none) else K (.pan v) (g4 S)) = some out → (Code.region id ops draw).wp P (adM X K out) a w := by
   intro st G R h
   cases draw with
   | true => exact hdraw ops st _ (fun v => K (.pan v) Sto.nil) out h id X G a w _ hF hc R (fun st' hst' G' a' w' R' => ⟨G', st', R', hst'⟩) (fun v hv chain a' w' S ⟨G', H, u, p1, p2, p3, p4⟩ => ⟨v, Sto.nil, G', H, u, p1, p2, p3, p4.apl, hv⟩)
   | false =>
    exact wp_region_list (xQ hops hF (fun st' ts' hst' G' a' w' R' => ⟨G', st', R', hst'⟩) (fun v S _ hv chain a' w' ⟨G', H, u, p1, p2, p3, p4⟩ => ⟨v, g4 S, G', H, u, p1, p2, p3, p4, hv⟩) _ _ _ _ _ _ hc h R)
  unfold exec at h
  simp only at h
  split at h
  ·rename_i hh _
   obtain ⟨st', h1, h2⟩ := Option.bind_eq_some_iff.1 h
   obtain ⟨G', R'⟩ := hcan _ _ _ h1 X G a w hF R
   exact go st' G' R' h2
  ·exact go st G R h
 | seq x y ihx ihy =>
  intro st K G a w hc h R
  simp only [codeOk, Bool.and_eq_true] at hc
  refine wp_seq (wp_mono (ihx st _ G a w hc.1 (by simpa only [exec] using h) R) (fun e a' w' hq => ?_))
  cases e <;> simp only [adM, Exit.then] at hq ⊢ <;> first | exact hq | skip
  obtain ⟨G', st', R', h'⟩ := hq
  exact ihy st' K G' a' w' hc.2 h' R'
 | cond c x y ihx ihy =>
  intro st K G a w hc h R
  simp only [codeOk, Bool.and_eq_true] at hc
  unfold exec at h
  split at h
  ·rename_i i
   split at h
   ·rename_i b hb
    obtain ⟨_, hav⟩ := R.tm i _ hb
    refine wp_cond (t := b) (by simpa [Act.eval] using hav.mT) ?_
    cases b <;> simp only [if_true, if_false, Bool.false_eq_true] at h ⊢ <;> rw [aeH _ hb] at h
    ·exact ihy st K G a w hc.2 h R
    ·exact ihx st K G a w hc.1 h R
   ·rename_i hb
    obtain ⟨hi, hav⟩ := R.tm i _ hb
    obtain ⟨h1, h2⟩ := acf h
    obtain ⟨b, hb'⟩ : ∃ b, a.tmps.getD i undef = .bool b := by cases hav' : a.tmps.getD i undef <;> rw [hav'] at hav <;> cases hav; exact ⟨_, rfl⟩
    refine wp_cond (t := b) (by simpa [Act.eval] using hb') ?_
    have R' := R.aoL (b := b) hb hb'
    cases b <;> simp only [if_true, if_false, Bool.false_eq_true]
    ·exact ihy _ K G a w hc.2 h2 R'
    ·exact ihx _ K G a w hc.1 h1 R'
   ·cases h
  ·rename_i b
   refine wp_cond (t := b) rfl ?_
   cases b <;> simp only [if_true, if_false, Bool.false_eq_true] at h ⊢
   ·exact ihy st K G a w hc.2 h R
   ·exact ihx st K G a w hc.1 h R
  ·cases h
 | block id b ih =>
  intro st K G a w hc h R
  refine wp_block (wp_mono (ih st _ G a w (by simpa [codeOk] using hc) (by simpa only [exec] using h) R) (fun e a' w' hq => ?_))
  cases e <;> simp only [adM, Exit.inBlock] at hq ⊢ <;> first | exact hq | skip
  rename_i i
  obtain ⟨G', st', R', h'⟩ := hq
  by_cases hi : i = id
  ·subst hi
   simp only [Nat.beq_refl, if_true] at h'
   simp only [if_true]
   exact ⟨G', st', R', h'⟩
  ·have : Nat.beq i id = false := by
    cases hb : Nat.beq i id
    ·rfl
    ·exact absurd (Nat.eq_of_beq_eq_true hb) hi
   simp only [this] at h'
   simp only [hi, if_false]
   exact ⟨G', st', R', h'⟩
 | loop b ih =>
  intro st K G a w hc h R
  exact hL b st K out (by simpa only [exec] using h) X G a w hF (by simpa [codeOk] using hc) R
 | scope b ih => intro st K G a w hc h R; exact alI (fun _ _ _ hq => hq) (ih st K G a w (by simpa [codeOk] using hc) (by simpa only [exec] using h) R)
 | _ => intro st K G a w _ h R; simp [exec] at h
theorem aiJ (EO : dE P E) (hops : aag P E Γ) (hdraw : aeQ P E Γ) (hcan : afQ P E) {hl hr : Nat → Option Hint} : ∀ n, ag2 P E (cS E Γ hl hr n) := by
 intro n
 suffices key : (∀ b st K out, cS E Γ hl hr n b st K = some out → ∀ X G a w, FOK X → codeOk X.nt b = true → Rel X G st a w → Code.rounds P b (adM X K out) n a w) from
  fun b st K out h X G a w hF hc R => wp_loop_rounds n (key b st K out h X G a w hF hc R)
 induction n with
 | zero => intro b st K out h; simp [cS] at h
 | succ n ih =>
  intro b st K out h X G a w hF hc R
  simp only [cS] at h
  split at h
  ·cases h
  ·rename_i hh _
   obtain ⟨st', h1, h2⟩ := Option.bind_eq_some_iff.1 h
   obtain ⟨G', R'⟩ := hcan _ _ _ h1 X G a w hF R
   have hLam : ag2 P E (cS E Γ hl hr n) := fun b st K out h X G a w hF hc R => wp_loop_rounds n (ih b st K out h X G a w hF hc R)
   rw [rounds_succ]
   refine wp_mono (aec EO hops hLam hdraw hcan hF b st' _ G' a w hc h2 R') (fun e a' w' hq => ?_)
   cases e <;> simp only [adM, Exit.then, iX] at hq ⊢ <;> first | exact hq | skip
   obtain ⟨G2, st2, R2, h3⟩ := hq
   exact ih b st2 K out h3 X G2 a' w' hF hc R2
end
end PX
set_option linter.unusedVariables false
set_option linter.unusedSimpArgs false
namespace PX
open Go
section
variable {P : Program} {E : Env} {Γ : Fun} {X : Ctx} {G : Gh} {st : Sto} {a : Act} {w : World} {tr : Tr} {po : PO}
 {next : Act → World → Prop} {Q : Exit → Act → World → Prop} {o : Oper}
theorem akn : ∀ (p : Pr) (s : Sto) (tr : Tr) (v : AV) (s1 : Sto) (tr1 : Tr), prE Γ p s tr = some (.val v s1 tr1) →
  ∃ R W, tr1 = (R ++ tr.1, W ++ tr.2) ∧ (∀ l, l ∉ W → s1 l = s l) ∧
   ∀ (s' : Sto) (tr' : Tr), (∀ l ∈ R, s' l = s l) → ∃ s1', prE Γ p s' tr' = some (.val v s1' (R ++ tr'.1, W ++ tr'.2)) ∧ (∀ l ∈ W, s1' l = s1 l) ∧ ∀ l, l ∉ W → s1' l = s' l := by
 intro p
 induction p with
 | done u =>
  intro s tr v s1 tr1 h
  simp only [prE, Option.some.injEq, PO.val.injEq] at h
  obtain ⟨rfl, rfl, rfl⟩ := h
  exact ⟨[], [], rfl, fun _ _ => rfl, fun s' tr' _ => ⟨s', rfl, by simp, fun _ _ => rfl⟩⟩
 | fail => intro s tr v s1 tr1 h; simp [prE] at h
 | pan u => intro s tr v s1 tr1 h; simp [prE] at h
 | get l q ih =>
  intro s tr v s1 tr1 h
  simp only [prE] at h
  obtain ⟨R, W, rfl, h1, h2⟩ := ih (s l) s _ v s1 tr1 h
  refine ⟨R ++ [l], W, by simp, h1, fun s' tr' hr => ?_⟩
  have hl : s' l = s l := hr l (by simp)
  obtain ⟨s1', h3, h4, h5⟩ := h2 s' (l :: tr'.1, tr'.2) (fun x hx => hr x (by simp [hx]))
  exact ⟨s1', by simp only [prE, hl]; rw [h3]; simp, h4, h5⟩
 | put l u q ih =>
  intro s tr v s1 tr1 h
  simp only [prE] at h
  obtain ⟨R, W, rfl, h1, h2⟩ := ih (s.upd l u) _ v s1 tr1 h
  refine ⟨R, W ++ [l], by simp, fun x hx => ?_, fun s' tr' hr => ?_⟩
  ·simp only [List.mem_append, List.mem_singleton, not_or] at hx
   rw [h1 x hx.1, aP _ _ (Ne.symm hx.2)]
  ·obtain ⟨s1', h3, h4, h5⟩ := h2 (s'.upd l u) (tr'.1, l :: tr'.2) (fun x hx => by
    by_cases e : l = x
    ·subst e; simp
    ·rw [aP _ _ e, aP _ _ e]; exact hr x hx)
   refine ⟨s1', by simp only [prE]; rw [h3]; simp, fun x hx => ?_, fun x hx => ?_⟩
   ·by_cases hw : x ∈ W
    ·exact h4 x hw
    ·have e : l = x := by simp only [List.mem_append, List.mem_singleton] at hx; rcases hx with hx | hx; exact absurd hx hw; exact hx.symm
     subst e
     rw [h5 _ hw, h1 _ hw]; simp
   ·simp only [List.mem_append, List.mem_singleton, not_or] at hx
    rw [h5 x hx.1, aP _ _ (Ne.symm hx.2)]
 | chk b q ih =>
  intro s tr v s1 tr1 h
  cases b with
  | false => simp [prE] at h
  | true =>
   obtain ⟨R, W, rfl, h1, h2⟩ := ih s tr v s1 tr1 h
   exact ⟨R, W, rfl, h1, h2⟩
 | ite b q r ihq ihr =>
  intro s tr v s1 tr1 h
  cases b with
  | false =>
   obtain ⟨R, W, rfl, h1, h2⟩ := ihr s tr v s1 tr1 h
   exact ⟨R, W, rfl, h1, h2⟩
  | true =>
   obtain ⟨R, W, rfl, h1, h2⟩ := ihq s tr v s1 tr1 h
   exact ⟨R, W, rfl, h1, h2⟩
 | call f as bs rs q ih =>
  intro s tr v s1 tr1 h
  simp only [prE] at h
  split at h
  ·rename_i oo hoo
   obtain ⟨R, W, rfl, h1, h2⟩ := ih oo s tr v s1 tr1 h
   refine ⟨R, W, rfl, h1, fun s' tr' hr => ?_⟩
   obtain ⟨s1', h3, h4, h5⟩ := h2 s' tr' hr
   exact ⟨s1', by simp only [prE, hoo]; exact h3, h4, h5⟩
  ·cases h
def oO (E : Env) (Γ : Fun) (ops : Array Oper) (o : Oper) (st : Sto) : Option (Sto × Tr) :=
 let go (tr : Tr) : Option (Sto × Tr) := match prE Γ (iR E o) st tr with
  | some (.val v st' tr') => some (putDst st' o.dst v, fK tr' o.dst)
  | _ => none
 match o.guard with
 | none => go ([], [])
 | some (j, want) =>
  match (ops[j]?).bind (·.dst) with
  | none => none
  | some t =>
   match st (.tm t) with
   | .av (.d (.bool b)) => if b = want then go ([.tm t], []) else some (putDst st o.dst .undf, fK ([.tm t], []) o.dst)
   | .av .undf => some (putDst st o.dst .undf, fK ([.tm t], []) o.dst)
   | _ => none
def wQ (E : Env) (Γ : Fun) (ops : Array Oper) (o : Oper) (st : Sto) : Option (AV × Tr) :=
 let go (tr : Tr) : Option (AV × Tr) := match prE Γ (iR E o) st tr with
  | some (.pan v _) => some (v, dW Γ (iR E o) st tr)
  | _ => none
 match o.guard with
 | none => go ([], [])
 | some (j, want) =>
  match (ops[j]?).bind (·.dst) with
  | none => none
  | some t =>
   match st (.tm t) with
   | .av (.d (.bool b)) => if b = want then go ([.tm t], []) else none
   | _ => none
theorem aiy {ops : Array Oper} {r : List Oper} {ts : List Tr} {k : Sto → List Tr → Res} {kp : AV → Sto → List Tr → Res} {out : Out} (h : dJ E Γ ops (o :: r) st ts k kp = some out) :
  (∃ p, oO E Γ ops o st = some p ∧ dJ E Γ ops r p.1 (p.2 :: ts) k kp = some out) ∨ ∃ p S, wQ E Γ ops o st = some p ∧ kp p.1 S (p.2 :: ts) = some out := by
 have go : ∀ (tr : Tr), gI Γ (iR E o) st tr (fun v st' tr => dJ E Γ ops r (putDst st' o.dst v) (fK tr o.dst :: ts) k kp) (fun v S tr => kp v S (tr :: ts)) = some out →
   (∃ p, (match prE Γ (iR E o) st tr with
    | some (.val v st' tr') => some (putDst st' o.dst v, fK tr' o.dst)
    | _ => none : Option (Sto × Tr)) = some p ∧ dJ E Γ ops r p.1 (p.2 :: ts) k kp = some out) ∨ ∃ p S, (match prE Γ (iR E o) st tr with
    | some (.pan v _) => some (v, dW Γ (iR E o) st tr)
    | _ => none : Option (AV × Tr)) = some p ∧ kp p.1 S (p.2 :: ts) = some out := by
  intro tr h
  rw [uK] at h
  cases hp : prE Γ (iR E o) st tr with
  | none => rw [hp] at h; cases h
  | some p =>
   rw [hp] at h
   cases p with
   | val v st' tr' => exact .inl ⟨_, rfl, h⟩
   | pan v S => exact .inr ⟨_, S, rfl, h⟩
 rw [dJ] at h
 unfold oO wQ
 simp only at h ⊢
 cases hg : o.guard with
 | none => rw [hg] at h; exact go _ h
 | some p =>
  obtain ⟨j, want⟩ := p
  rw [hg] at h
  simp only at h ⊢
  cases ht : (ops[j]?).bind (·.dst) with
  | none => rw [ht] at h; cases h
  | some t =>
   rw [ht] at h
   simp only at h ⊢
   split at h
   ·rename_i b hb
    simp only [hb]
    cases b <;> cases want <;> simp only [if_true, if_false, Bool.false_eq_true, Bool.true_eq_false] at h ⊢ <;> rw [aeH _ hb] at h <;> first | exact go _ h | exact .inl ⟨_, rfl, h⟩
   ·rename_i hb
    simp only [hb]
    exact .inl ⟨_, rfl, h⟩
   ·cases h
theorem adx (tr : Tr) (d : Option Nat) : fK tr d = (tr.1, (d.map Loc.tm).toList ++ tr.2) := by cases d <;> rfl
theorem nY (st : Sto) (d : Option Nat) (v : AV) (l : Loc) : putDst st d v l = if d.map Loc.tm = some l then .av v else st l := by
 cases d with
 | none => simp [putDst]
 | some d =>
  simp only [putDst, Option.map_some, Option.some.injEq]
  by_cases h : Loc.tm d = l
  ·subst h; simp
  ·rw [aP _ _ h, if_neg h]
theorem tC {ops : Array Oper} {s s1 : Sto} {t : Tr} (h : oO E Γ ops o s = some (s1, t)) :
  (∀ l, l ∉ t.2 → s1 l = s l) ∧ ∀ s' : Sto, (∀ l ∈ t.1, s' l = s l) → ∃ s1', oO E Γ ops o s' = some (s1', t) ∧ (∀ l ∈ t.2, s1' l = s1 l) ∧ ∀ l, l ∉ t.2 → s1' l = s' l := by
 have go : ∀ (tr0 : Tr) (s1 : Sto) (t : Tr), (match prE Γ (iR E o) s tr0 with
   | some (.val v st' tr') => some (putDst st' o.dst v, fK tr' o.dst)
   | _ => none : Option (Sto × Tr)) = some (s1, t) → tr0.2 = [] →
   (∀ l ∈ tr0.1, l ∈ t.1) ∧ (∀ l, l ∉ t.2 → s1 l = s l) ∧ ∀ s' : Sto, (∀ l ∈ t.1, s' l = s l) → ∃ s1', (match prE Γ (iR E o) s' tr0 with
    | some (.val v st' tr') => some (putDst st' o.dst v, fK tr' o.dst)
    | _ => none : Option (Sto × Tr)) = some (s1', t) ∧ (∀ l ∈ t.2, s1' l = s1 l) ∧ ∀ l, l ∉ t.2 → s1' l = s' l := by
  intro tr0 s1 t h h0
  split at h
  ·rename_i v st' tr' hpr
   simp only [Option.some.injEq, Prod.mk.injEq] at h
   obtain ⟨rfl, rfl⟩ := h
   obtain ⟨R, W, rfl, h1, h2⟩ := akn _ _ _ _ _ _ hpr
   rw [h0]
   simp only [adx, List.append_nil]
   refine ⟨fun l hl => by simp [hl], fun l hl => ?_, fun s' hs' => ?_⟩
   ·simp only [List.mem_append, Option.mem_toList, Option.mem_def, not_or] at hl
    rw [nY, if_neg hl.1, h1 l hl.2]
   ·obtain ⟨s1', h3, h4, h5⟩ := h2 s' tr0 (fun l hl => hs' l (by simp [hl]))
    refine ⟨putDst s1' o.dst v, by rw [h3]; simp [adx, h0], fun l hl => ?_, fun l hl => ?_⟩
    ·rw [nY, nY]
     split
     ·rfl
     ·rename_i hne
      simp only [List.mem_append, Option.mem_toList, Option.mem_def] at hl
      exact h4 l (hl.resolve_left hne)
    ·simp only [List.mem_append, Option.mem_toList, Option.mem_def, not_or] at hl
     rw [nY, if_neg hl.1, h5 l hl.2]
  ·cases h
 have skip : ∀ (t0 : Loc) (s1 : Sto) (t : Tr), (some (putDst s o.dst .undf, fK ([t0], []) o.dst) : Option (Sto × Tr)) = some (s1, t) →
   (∀ l, l ∉ t.2 → s1 l = s l) ∧ t0 ∈ t.1 ∧ ∀ s' : Sto, (∀ l ∈ t.2, putDst s' o.dst .undf l = s1 l) ∧ (∀ l, l ∉ t.2 → putDst s' o.dst .undf l = s' l) := by
  intro t0 s1 t h
  simp only [Option.some.injEq, Prod.mk.injEq] at h
  obtain ⟨rfl, rfl⟩ := h
  simp only [adx, List.append_nil]
  refine ⟨fun l hl => ?_, by simp, fun s' => ⟨fun l hl => ?_, fun l hl => ?_⟩⟩
  ·simp only [Option.mem_toList, Option.mem_def] at hl
   rw [nY, if_neg hl]
  ·simp only [Option.mem_toList, Option.mem_def] at hl
   rw [nY, if_pos hl, nY, if_pos hl]
  ·simp only [Option.mem_toList, Option.mem_def] at hl
   rw [nY, if_neg hl]
 unfold oO at h ⊢
 simp only at h ⊢
 split at h
 ·rename_i hg
  obtain ⟨_, h1, h2⟩ := go _ _ _ h rfl
  exact ⟨h1, h2⟩
 ·rename_i j want hg
  split at h
  ·cases h
  ·rename_i t0 ht
   split at h
   ·rename_i b hb
    split at h
    ·rename_i hbw
     obtain ⟨h0, h1, h2⟩ := go _ _ _ h rfl
     refine ⟨h1, fun s' hs' => ?_⟩
     have e : s' (.tm t0) = .av (.d (.bool b)) := by rw [hs' _ (h0 _ (by simp)), hb]
     obtain ⟨s1', h3, h4⟩ := h2 s' hs'
     exact ⟨s1', by simp only [e, if_pos hbw]; exact h3, h4⟩
    ·rename_i hbw
     obtain ⟨h1, h0, h2⟩ := skip _ _ _ h
     refine ⟨h1, fun s' hs' => ?_⟩
     have e : s' (.tm t0) = .av (.d (.bool b)) := by rw [hs' _ h0, hb]
     have e2 : fK ([.tm t0], []) o.dst = t := by simp only [Option.some.injEq, Prod.mk.injEq] at h; exact h.2
     exact ⟨_, by simp only [e, if_neg hbw, e2], h2 s'⟩
   ·rename_i hb
    obtain ⟨h1, h0, h2⟩ := skip _ _ _ h
    refine ⟨h1, fun s' hs' => ?_⟩
    have e : s' (.tm t0) = .av .undf := by rw [hs' _ h0, hb]
    have e2 : fK ([.tm t0], []) o.dst = t := by simp only [Option.some.injEq, Prod.mk.injEq] at h; exact h.2
    exact ⟨_, by simp only [e, e2], h2 s'⟩
   ·cases h
theorem anr : ∀ (p : Pr) (s : Sto) (tr : Tr) (v : AV) (S : Sto), prE Γ p s tr = some (.pan v S) →
  ∃ R W, dW Γ p s tr = (R ++ tr.1, W ++ tr.2) ∧ ∀ (s' : Sto) (tr' : Tr), (∀ l ∈ R, s' l = s l) → (∃ S', prE Γ p s' tr' = some (.pan v S')) ∧ dW Γ p s' tr' = (R ++ tr'.1, W ++ tr'.2) := by
 intro p
 induction p with
 | done u => intro s tr v S h; simp [prE] at h
 | fail => intro s tr v S h; simp [prE] at h
 | pan u =>
  intro s tr v S h
  simp only [prE, Option.some.injEq, PO.pan.injEq] at h
  obtain ⟨rfl, rfl⟩ := h
  exact ⟨[], [], rfl, fun s' tr' _ => ⟨⟨_, rfl⟩, rfl⟩⟩
 | get l q ih =>
  intro s tr v S h
  simp only [prE] at h
  obtain ⟨R, W, h1, h2⟩ := ih (s l) s _ v S h
  refine ⟨R ++ [l], W, by simp only [dW]; rw [h1]; simp, fun s' tr' hr => ?_⟩
  have hl : s' l = s l := hr l (by simp)
  obtain ⟨h3, h4⟩ := h2 s' (l :: tr'.1, tr'.2) (fun x hx => hr x (by simp [hx]))
  exact ⟨by simp only [prE, hl]; exact h3, by simp only [dW, hl]; rw [h4]; simp⟩
 | put l u q ih =>
  intro s tr v S h
  simp only [prE] at h
  obtain ⟨R, W, h1, h2⟩ := ih (s.upd l u) _ v S h
  refine ⟨R, W ++ [l], by simp only [dW]; rw [h1]; simp, fun s' tr' hr => ?_⟩
  obtain ⟨h3, h4⟩ := h2 (s'.upd l u) (tr'.1, l :: tr'.2) (fun x hx => by
   by_cases e : l = x
   ·subst e; simp
   ·rw [aP _ _ e, aP _ _ e]; exact hr x hx)
  exact ⟨by simp only [prE]; exact h3, by simp only [dW]; rw [h4]; simp⟩
 | chk b q ih =>
  intro s tr v S h
  cases b with
  | false => simp [prE] at h
  | true =>
   obtain ⟨R, W, h1, h2⟩ := ih s tr v S h
   exact ⟨R, W, h1, h2⟩
 | ite b q r ihq ihr =>
  intro s tr v S h
  cases b with
  | false =>
   obtain ⟨R, W, h1, h2⟩ := ihr s tr v S h
   exact ⟨R, W, h1, h2⟩
  | true =>
   obtain ⟨R, W, h1, h2⟩ := ihq s tr v S h
   exact ⟨R, W, h1, h2⟩
 | call f as bs rs q ih =>
  intro s tr v S h
  simp only [prE] at h
  split at h
  ·rename_i oo hoo
   obtain ⟨R, W, h1, h2⟩ := ih oo s tr v S h
   refine ⟨R, W, by simp only [dW, hoo]; exact h1, fun s' tr' hr => ?_⟩
   obtain ⟨h3, h4⟩ := h2 s' tr' hr
   exact ⟨by simp only [prE, hoo]; exact h3, by simp only [dW, hoo]; exact h4⟩
  ·cases h
theorem aiV {ops : Array Oper} {s : Sto} {p : AV × Tr} (h : wQ E Γ ops o s = some p) (s' : Sto) (hs : ∀ l ∈ p.2.1, s' l = s l) : wQ E Γ ops o s' = some p := by
 have go : ∀ (tr0 : Tr), (match prE Γ (iR E o) s tr0 with
   | some (.pan v _) => some (v, dW Γ (iR E o) s tr0)
   | _ => none : Option (AV × Tr)) = some p → (∀ l ∈ tr0.1, l ∈ p.2.1) ∧ (match prE Γ (iR E o) s' tr0 with
   | some (.pan v _) => some (v, dW Γ (iR E o) s' tr0)
   | _ => none : Option (AV × Tr)) = some p := by
  intro tr0 h
  split at h
  ·rename_i v S hpr
   simp only [Option.some.injEq] at h
   subst h
   obtain ⟨R, W, h1, h2⟩ := anr _ _ _ _ _ hpr
   rw [h1] at hs ⊢
   obtain ⟨⟨S', h3⟩, h4⟩ := h2 s' tr0 (fun l hl => hs l (by simp [hl]))
   refine ⟨fun l hl => by simp [hl], ?_⟩
   rw [h3]
   simp only [h4]
  ·cases h
 unfold wQ at h ⊢
 simp only at h ⊢
 split at h
 ·exact (go _ h).2
 ·rename_i j want hg
  split at h
  ·cases h
  ·rename_i t0 ht
   split at h
   ·rename_i b hb
    split at h
    ·rename_i hbw
     obtain ⟨h0, h1⟩ := go _ h
     have e : s' (.tm t0) = .av (.d (.bool b)) := by rw [hs _ (h0 _ (by simp)), hb]
     simp only [e, if_pos hbw]
     exact h1
    ·cases h
   ·cases h
theorem aiN (hops : aag P E Γ) (hF : FOK X) {ops : Array Oper} {i : Nat} {p : AV × Tr} (ho : ops[i]? = some o) (hok : xH X.nt o = true) (h : wQ E Γ ops o st = some p) (R : Rel X G st a w)
  {K : Act → World → Prop} (hp : ∀ chain a' w' S, abX X S a' p.1 chain w' → Q (.panic chain) a' w') : wpOp P ops Q i K a w := by
 have hd := adI hok
 have go : ∀ (tr0 : Tr), (match prE Γ (iR E o) st tr0 with
   | some (.pan v _) => some (v, dW Γ (iR E o) st tr0)
   | _ => none : Option (AV × Tr)) = some p → o.wp P a w K Q := by
  intro tr0 h
  split at h
  ·rename_i v S hpr
   simp only [Option.some.injEq] at h
   subst h
   refine hops X.nt o hok X G st a w tr0 _ _ Q hpr R hd hF (fun _ _ _ e => by cases e) ?_
   intro v' S' e chain w' hpan
   injection e with e1 e2
   subst e1
   exact hp chain a w' S' hpan
  ·cases h
 unfold wpOp
 rw [ho]
 simp only
 unfold wQ at h
 simp only at h
 split at h
 ·rename_i hg
  have hw : Region.wanted o (yielded ops a.tmps) = true := by simp [Region.wanted, hg]
  rw [if_pos hw]
  exact .inl (go _ h)
 ·rename_i j want hg
  split at h
  ·cases h
  ·rename_i t0 ht
   split at h
   ·rename_i b hb
    obtain ⟨htlt, hav⟩ := R.tm t0 _ hb
    have hy := tB ht (by rw [R.sz]; exact htlt) hav.mT
    simp only [aeA] at hy
    have hwant : Region.wanted o (yielded ops a.tmps) = (b == want) := by
     simp only [Region.wanted, hg, hy]
     cases b <;> cases want <;> rfl
    rw [hwant]
    split at h
    ·rename_i hbw
     subst hbw
     simp only [beq_self_eq_true, if_true]
     exact .inl (go _ h)
    ·cases h
   ·cases h
theorem abU (hops : aag P E Γ) (hF : FOK X) {ops : Array Oper} {i : Nat} {s1 : Sto} {t : Tr} (ho : ops[i]? = some o) (hok : xH X.nt o = true) (h : oO E Γ ops o st = some (s1, t)) (R : Rel X G st a w)
  {K : Act → World → Prop} (hK : ∀ G' a' w', Rel X G' s1 a' w' → K a' w') : wpOp P ops Q i K a w := by
 have hd := adI hok
 have go : ∀ (tr0 : Tr), (match prE Γ (iR E o) st tr0 with
   | some (.val v st' tr') => some (putDst st' o.dst v, fK tr' o.dst)
   | _ => none : Option (Sto × Tr)) = some (s1, t) → o.wp P a w K Q := by
  intro tr0 h
  split at h
  ·rename_i v st' tr' hpr
   simp only [Option.some.injEq, Prod.mk.injEq] at h
   obtain ⟨rfl, rfl⟩ := h
   refine hops X.nt o hok X G st a w tr0 _ _ Q hpr R hd hF ?_ (fun v S e => by cases e)
   intro v' st'' tr'' e G' a' w' R'
   injection e with e1 e2 e3
   subst e1; subst e2
   exact hK _ _ _ R'
  ·cases h
 have skip : ∀ (t0 : Loc), (some (putDst st o.dst .undf, fK ([t0], []) o.dst) : Option (Sto × Tr)) = some (s1, t) → K (a.put o.dst undef) w := by
  intro t0 h
  simp only [Option.some.injEq, Prod.mk.injEq] at h
  obtain ⟨rfl, rfl⟩ := h
  exact hK _ _ _ (R.undf hd)
 unfold wpOp
 rw [ho]
 simp only
 unfold oO at h
 simp only at h
 split at h
 ·rename_i hg
  have hw : Region.wanted o (yielded ops a.tmps) = true := by simp [Region.wanted, hg]
  rw [if_pos hw]
  exact .inl (go _ h)
 ·rename_i j want hg
  split at h
  ·cases h
  ·rename_i t0 ht
   split at h
   ·rename_i b hb
    obtain ⟨htlt, hav⟩ := R.tm t0 _ hb
    have hy := tB ht (by rw [R.sz]; exact htlt) hav.mT
    simp only [aeA] at hy
    have hwant : Region.wanted o (yielded ops a.tmps) = (b == want) := by
     simp only [Region.wanted, hg, hy]
     cases b <;> cases want <;> rfl
    rw [hwant]
    split at h
    ·rename_i hbw
     rw [if_pos (by simp [hbw])]
     exact .inl (go _ h)
    ·rename_i hbw
     rw [if_neg (by simp [hbw])]
     exact skip _ h
   ·rename_i hb
    obtain ⟨htlt, hav⟩ := R.tm t0 _ hb
    have hu : a.tmps.getD t0 undef = undef := by
     generalize a.tmps.getD t0 undef = uu at hav
     cases hav; rfl
    have hy := tB ht (by rw [R.sz]; exact htlt) hu
    have hwant : Region.wanted o (yielded ops a.tmps) = false := by
     simp only [Region.wanted, hg, hy]
     rfl
    rw [hwant, if_neg (by simp)]
    exact skip _ h
   ·cases h
end
end PX
set_option linter.unusedVariables false
set_option linter.unusedSimpArgs false
namespace PX
open Go
inductive Anc (ops : Array Oper) : Nat → Nat → Prop where
 | one {i : Nat} {o : Oper} {e : Edge} (ho : ops[i]? = some o) (he : e ∈ o.after) (hb : Region.binds .any e = true) : Anc ops i e.on
 | more {i j : Nat} {o : Oper} {e : Edge} (ho : ops[i]? = some o) (he : e ∈ o.after) (hb : Region.binds .any e = true) (h : Anc ops e.on j) : Anc ops i j
theorem ahX (acc : Array Nat) : ∀ (l : List Edge) (s j : Nat), (l.foldl (fun s e => if Region.binds .any e then s ||| 2 ^ e.on ||| acc.getD e.on 0 else s) s).testBit j = true →
  s.testBit j = true ∨ ∃ e ∈ l, Region.binds .any e = true ∧ (e.on = j ∨ (acc.getD e.on 0).testBit j = true)
 | [], s, j, h => .inl h
 | e :: l, s, j, h => by
  simp only [List.foldl_cons] at h
  rcases ahX acc l _ j h with h | ⟨e', he', hb', h'⟩
  ·split at h
   ·rename_i hb
    simp only [Nat.testBit_or, Bool.or_eq_true, Nat.testBit_two_pow, decide_eq_true_eq] at h
    rcases h with (h | h) | h
    ·exact .inl h
    ·exact .inr ⟨e, by simp, hb, .inl h⟩
    ·exact .inr ⟨e, by simp, hb, .inr h⟩
   ·exact .inl h
  ·exact .inr ⟨e', by simp [he'], hb', h'⟩
theorem wW (ops : Array Oper) : ∀ (i j : Nat), ((Region.before ops).getD i 0).testBit j = true → Anc ops i j := by
 have key : ∀ (l : List Oper) (pre : List Oper) (acc : Array Nat), ops.toList = pre ++ l → acc.size = pre.length → (∀ i j, (acc.getD i 0).testBit j = true → Anc ops i j) →
   ∀ i j, ((l.foldl (fun acc o => acc.push (o.after.foldl (fun s e => if Region.binds .any e then s ||| 2 ^ e.on ||| acc.getD e.on 0 else s) 0)) acc).getD i 0).testBit j = true → Anc ops i j := by
  intro l
  induction l with
  | nil => intro pre acc _ _ h; exact h
  | cons o l ih =>
   intro pre acc hp hs h
   simp only [List.foldl_cons]
   refine ih (pre ++ [o]) _ (by simp [hp]) (by simp [hs]) (fun i j hij => ?_)
   rw [Array.getD_eq_getD_getElem?, Array.getElem?_push] at hij
   split at hij
   ·rename_i hi
    subst hi
    simp only [Option.getD_some] at hij
    rw [← Array.foldl_toList] at hij
    have ho : ops[acc.size]? = some o := by
     rw [← Array.getElem?_toList, hp, hs]
     simp
    rcases ahX acc _ _ _ hij with h' | ⟨e, he, hb, h'⟩
    ·simp at h'
    ·rcases h' with rfl | h'
     ·exact .one ho (by simpa using he) hb
     ·exact .more ho (by simpa using he) hb (h _ _ h')
   ·rw [← Array.getD_eq_getD_getElem?] at hij
    exact h _ _ hij
 intro i j h
 unfold Region.before at h
 rw [← Array.foldl_toList] at h
 exact key ops.toList [] #[] rfl rfl (by simp) i j h
section
variable {P : Program} {E : Env} {Γ : Fun} {X : Ctx} {G : Gh} {st : Sto} {a : Act} {w : World} {tr : Tr} {po : PO}
 {next : Act → World → Prop} {Q : Exit → Act → World → Prop} {o : Oper}
theorem acy {ops : Array Oper} {k : Sto → List Tr → Res} {kp : AV → Sto → List Tr → Res} {out : Out} : ∀ (l : List Oper) (st : Sto) (ts : List Tr), dJ E Γ ops l st ts k kp = some out →
  (∃ (s : Nat → Sto) (t : Nat → Tr), s 0 = st ∧ (∀ i o, l[i]? = some o → oO E Γ ops o (s i) = some (s (i + 1), t i)) ∧ k (s l.length) (((List.range l.length).map t).reverse ++ ts) = some out) ∨
  ∃ (s : Nat → Sto) (t : Nat → Tr) (m : Nat) (o : Oper) (p : AV × Tr) (S : Sto), s 0 = st ∧ l[m]? = some o ∧ (∀ i o, i < m → l[i]? = some o → oO E Γ ops o (s i) = some (s (i + 1), t i)) ∧ wQ E Γ ops o (s m) = some p ∧ kp p.1 S (p.2 :: (((List.range m).map t).reverse ++ ts)) = some out
 | [], st, ts, h => .inl ⟨fun _ => st, fun _ => ([], []), rfl, by simp, by simpa [dJ] using h⟩
 | o :: r, st, ts, h => by
  rcases aiy h with ⟨⟨s1, t1⟩, h1, h2⟩ | ⟨p, S, h1, h2⟩
  ·rcases acy r s1 (t1 :: ts) h2 with ⟨s, t, h3, h4, h5⟩ | ⟨s, t, m, o', p, S, h3, h4, h5, h6, h7⟩
   ·refine .inl ⟨fun | 0 => st | i + 1 => s i, fun | 0 => t1 | i + 1 => t i, rfl, fun i o' hi => ?_, ?_⟩
    ·cases i with
     | zero => simp at hi; subst hi; simp only [h3]; exact h1
     | succ i => exact h4 i o' (by simpa using hi)
    ·simp only [List.length_cons, List.range_succ_eq_map, List.map_cons, List.reverse_cons, List.append_assoc, List.singleton_append, List.map_map]
     exact h5
   ·refine .inr ⟨fun | 0 => st | i + 1 => s i, fun | 0 => t1 | i + 1 => t i, m + 1, o', p, S, rfl, by simpa using h4, fun i o' hlt hi => ?_, h6, ?_⟩
    ·cases i with
     | zero => simp at hi; subst hi; simp only [h3]; exact h1
     | succ i => exact h5 i o' (by omega) (by simpa using hi)
    ·simp only [List.range_succ_eq_map, List.map_cons, List.reverse_cons, List.append_assoc, List.singleton_append, List.map_map]
     exact h7
  ·exact .inr ⟨fun _ => st, fun _ => ([], []), 0, o, p, S, rfl, rfl, fun i o hi => by omega, h1, by simpa using h2⟩
theorem aah {t : Nat → Tr} {m : Nat} {u : Tr} : ∀ (n : Nat), jP.go m u (((List.range n).map t).reverse) = true → ∀ j, j < n → m.testBit j = true ∨ pN (t j) u = true
 | 0, h, j, hj => by omega
 | n + 1, h, j, hj => by
  simp only [List.range_succ, List.map_append, List.map_cons, List.map_nil, List.reverse_append, List.reverse_cons, List.reverse_nil, List.nil_append, List.singleton_append, jP.go, Bool.and_eq_true, Bool.or_eq_true,
   List.length_reverse, List.length_map, List.length_range] at h
  by_cases hjn : j = n
  ·subst hjn; exact h.1
  ·exact aah n h.2 j (by omega)
theorem zU {t : Nat → Tr} {bf : Array Nat} : ∀ (n : Nat), jP bf (((List.range n).map t).reverse) = true → ∀ i j, i < n → j < i → (bf.getD i 0).testBit j = true ∨ pN (t j) (t i) = true
 | 0, h, i, j, hi, hj => by omega
 | n + 1, h, i, j, hi, hj => by
  simp only [List.range_succ, List.map_append, List.map_cons, List.map_nil, List.reverse_append, List.reverse_cons, List.reverse_nil, List.nil_append, List.singleton_append, jP, Bool.and_eq_true,
   List.length_reverse, List.length_map, List.length_range] at h
  by_cases hin : i = n
  ·subst hin; exact aah i h.2 j hj
  ·exact zU n h.1 i j (by omega) hj
theorem n7 {xs ys : List Loc} (h : ab5 xs ys = true) {l : Loc} (h1 : l ∈ xs) (h2 : l ∈ ys) : False := by
 simp only [ab5, List.all_eq_true, Bool.not_eq_true', List.any_eq_false] at h
 exact h l h1 l h2 (Loc.eq_self l)
def l3 (s : Nat → Sto) (t : Nat → Tr) (S : Nat → Bool) (l : Loc) : Nat → LV
 | 0 => s 0 l
 | i + 1 => if S i = true ∧ l ∈ (t i).2 then s (i + 1) l else l3 s t S l i
section
variable {ops : Array Oper} {s : Nat → Sto} {t : Nat → Tr} {n : Nat}
theorem xY {S : Nat → Bool} {l : Loc} (hf : ∀ i, i < n → l ∉ (t i).2 → s (i + 1) l = s i l) : ∀ i, i ≤ n → (∀ j, j < i → l ∈ (t j).2 → S j = true) → l3 s t S l i = s i l
 | 0, _, _ => rfl
 | i + 1, hi, h => by
  unfold l3
  by_cases hw : l ∈ (t i).2
  ·rw [if_pos ⟨h i (by omega) hw, hw⟩]
  ·rw [if_neg (fun hh => hw hh.2), xY hf i (by omega) (fun j hj => h j (by omega)), hf i (by omega) hw]
theorem rY {S : Nat → Bool} {l : Loc} {i : Nat} : ∀ m, i ≤ m → (∀ j, i ≤ j → j < m → S j = true → l ∉ (t j).2) → l3 s t S l m = l3 s t S l i
 | 0, h, _ => by
  obtain rfl : i = 0 := by omega
  rfl
 | m + 1, h, hh => by
  by_cases e : i = m + 1
  ·rw [e]
  ·rw [l3, if_neg (fun h' => hh m (by omega) (by omega) h'.1 h'.2)]
   exact rY m (by omega) (fun j h1 h2 => hh j h1 (by omega))
theorem aaT {S S' : Nat → Bool} {l : Loc} : ∀ m, (∀ j, j < m → l ∈ (t j).2 → S j = S' j) → l3 s t S l m = l3 s t S' l m
 | 0, _ => rfl
 | m + 1, h => by
  unfold l3
  rw [aaT m (fun j hj => h j (by omega))]
  by_cases hw : l ∈ (t m).2
  ·rw [h m (by omega) hw]
  ·rw [if_neg (fun hh => hw hh.2), if_neg (fun hh => hw hh.2)]
theorem abi {f g : Nat → Bool} {i : Nat} : ∀ (l : List Nat), (∀ x ∈ l, g x = true → f x = true) → i ∈ l → f i = true → g i = false → l.countP g < l.countP f
 | [], _, hi, _, _ => by simp at hi
 | x :: l, h, hi, hfi, hgi => by
  have hle : l.countP g ≤ l.countP f := List.countP_mono_left (fun y hy => h y (by simp [hy]))
  by_cases e : x = i
  ·subst e
   simp [List.countP_cons, hfi, hgi]; omega
  ·have hi' : i ∈ l := by simpa [Ne.symm e] using hi
   have := abi l (fun y hy => h y (by simp [hy])) hi' hfi hgi
   have hx := h x (by simp)
   simp only [List.countP_cons]
   cases hg : g x <;> cases hff : f x <;> simp_all <;> omega
theorem al4 (hops : aag P E Γ) (hF : FOK X) (hok : ops.toList.all (xH X.nt) = true) (hn : n = ops.size)
  (hstep : ∀ i o, ops[i]? = some o → oO E Γ ops o (s i) = some (s (i + 1), t i))
  (hord : ∀ i j, i < n → j < i → Anc ops i j ∨ pN (t j) (t i) = true)
  (hedge : ∀ i o, ops[i]? = some o → ∀ e ∈ o.after, Region.binds .any e = true → e.on < i)
  (hend : ∀ G' a' w', Rel X G' (s n) a' w' → Q .normal a' w') :
  ∀ (fuel : Nat) (listed : Array Bool) (G : Gh) (a : Act) (w : World), listed.size = n → (List.range n).countP (fun i => !listed.getD i false) ≤ fuel →
   (∀ i o, ops[i]? = some o → listed.getD i false = true → ∀ e ∈ o.after, Region.binds .any e = true → listed.getD e.on false = true) →
   Rel X G (fun l => l3 s t (fun i => listed.getD i false) l n) a w → wpAny P .any ops Q fuel listed a w := by
 have hfr : ∀ i, i < n → ∀ l, l ∉ (t i).2 → s (i + 1) l = s i l := by
  intro i hi l hl
  have : ops[i]? = some ops[i] := Array.getElem?_eq_getElem (by omega)
  exact (tC (hstep i _ this)).1 l hl
 have closed : ∀ {S : Nat → Bool}, (∀ i o, ops[i]? = some o → S i = true → ∀ e ∈ o.after, Region.binds .any e = true → S e.on = true) → ∀ {i j}, Anc ops i j → S i = true → S j = true := by
  intro S hS i j h
  induction h with
  | one ho he hb => intro hi; exact hS _ _ ho hi _ he hb
  | more ho he hb h ih => intro hi; exact ih (hS _ _ ho hi _ he hb)
 have ready_all : ∀ (listed : Array Bool), listed.size = n → Region.ready .any ops listed = [] → ∀ i, i < n → listed.getD i false = true := by
  intro listed hsz hr i
  induction i using Nat.strongRecOn with
  | _ i ih =>
   intro hi
   cases hl : listed.getD i false with
   | true => rfl
   | false =>
    exfalso
    have ho : ops[i]? = some ops[i] := Array.getElem?_eq_getElem (by omega)
    have : i ∈ Region.ready .any ops listed := mem_ready.2 ⟨by
     have hlt : i < listed.size := by omega
     simpa [Array.getD_eq_getD_getElem?, Array.getElem?_eq_getElem hlt] using hl, _, ho, fun e he hb => by
     have := hedge i _ ho e he hb
     exact ih e.on this (by omega)⟩
    rw [hr] at this
    cases this
 have fin : ∀ (listed : Array Bool) (G : Gh) (a : Act) (w : World), (∀ i, i < n → listed.getD i false = true) → Rel X G (fun l => l3 s t (fun i => listed.getD i false) l n) a w → Q .normal a w := by
  intro listed G a w hall R
  refine hend G a w ?_
  have : (fun l => l3 s t (fun i => listed.getD i false) l n) = s n := by
   funext l
   exact xY (fun i hi hl => hfr i hi l hl) n (Nat.le_refl _) (fun j hj _ => hall j hj)
  rwa [this] at R
 intro fuel
 induction fuel with
 | zero =>
  intro listed G a w hsz hc hcl R
  have hall : ∀ i, i < n → listed.getD i false = true := by
   intro i hi
   have h0 : (List.range n).countP (fun i => !listed.getD i false) = 0 := by omega
   have := (List.countP_eq_zero.1 h0) i (by simpa using hi)
   simpa using this
  refine ⟨?_, fin listed G a w hall R⟩
  refine List.eq_nil_iff_forall_not_mem.2 (fun j hj => ?_)
  obtain ⟨h0, o, ho, _⟩ := mem_ready.1 hj
  have hlt := (Array.getElem?_eq_some_iff.1 ho).1
  have := hall j (by omega)
  have hlt' : j < listed.size := by omega
  simp [Array.getD_eq_getD_getElem?, Array.getElem?_eq_getElem hlt'] at h0 this
  rw [h0] at this; cases this
 | succ fuel ih =>
  intro listed G a w hsz hc hcl R
  refine ⟨fun hr => fin listed G a w (ready_all listed hsz hr) R, fun i hi => ?_⟩
  obtain ⟨h0, o, ho, hpre⟩ := mem_ready.1 hi
  have hin : i < n := by have := (Array.getElem?_eq_some_iff.1 ho).1; omega
  have hlt : i < listed.size := by omega
  have hSi : listed.getD i false = false := by
   simp [Array.getD_eq_getD_getElem?, Array.getElem?_eq_getElem hlt] at h0 ⊢
   exact h0
  have hS' : ∀ j, (listed.setIfInBounds i true).getD j false = if i = j then true else listed.getD j false := by
   intro j
   simp only [Array.getD_eq_getD_getElem?, Array.getElem?_setIfInBounds]
   by_cases e : i = j
   ·subst e; simp [hlt]
   ·simp [e]
  have hcl' : ∀ i' o', ops[i']? = some o' → (listed.setIfInBounds i true).getD i' false = true → ∀ e ∈ o'.after, Region.binds .any e = true → (listed.setIfInBounds i true).getD e.on false = true := by
   intro i' o' ho' hi' e he hb
   rw [hS'] at hi' ⊢
   split
   ·rfl
   ·split at hi'
    ·rename_i e1; subst e1
     rw [ho] at ho'; obtain rfl := Option.some.inj ho'
     exact hpre e he hb
    ·exact hcl i' o' ho' hi' e he hb
  have later : ∀ j l, i < j → j < n → listed.getD j false = true → l ∈ (t j).2 → (l ∈ (t i).1 ∨ l ∈ (t i).2) → False := by
   intro j l hij hj hSj hl hor
   rcases hord j i hj hij with han | hap
   ·have := closed hcl han hSj
    rw [hSi] at this; cases this
   ·simp only [pN, Bool.and_eq_true] at hap
    rcases hor with h' | h'
    ·exact n7 hap.2 h' hl
    ·exact n7 hap.1.2 h' hl
  have earlier : ∀ j l, j < i → l ∈ (t j).2 → l ∈ (t i).1 → listed.getD j false = true := by
   intro j l hji hl hr
   rcases hord i j hin hji with han | hap
   ·have h1 : (listed.setIfInBounds i true).getD i false = true := by rw [hS']; simp
    have := closed (S := fun k => (listed.setIfInBounds i true).getD k false) hcl' han h1
    simp only [hS'] at this
    rw [if_neg (by omega)] at this
    exact this
   ·simp only [pN, Bool.and_eq_true] at hap
    exact (n7 hap.1.1 hl hr).elim
  have hst := hstep i o ho
  obtain ⟨_, hframe⟩ := tC hst
  obtain ⟨s1', h1, h2, h3⟩ := hframe (fun l => l3 s t (fun i => listed.getD i false) l n) (fun l hl => by
   rw [rY (i := i) n (by omega) (fun j h1 h2 h3 h4 => by
    by_cases e : i = j
    ·subst e; rw [hSi] at h3; cases h3
    ·exact later j l (by omega) h2 h3 h4 (.inl hl))]
   exact xY (fun i hi hl => hfr i hi l hl) i (by omega) (fun j hj hw => earlier j l hj hw hl))
  refine abU hops hF ho ?_ h1 R (fun G' a' w' R' => ?_)
  ·exact (List.all_eq_true.1 hok) o (Array.mem_toList_iff.2 (Array.mem_of_getElem? ho))
  ·refine ih _ G' a' w' (by simpa using hsz) ?_ hcl' ?_
   ·have hlt := abi (f := fun j => !listed.getD j false) (g := fun j => !(listed.setIfInBounds i true).getD j false) (i := i) (List.range n) (fun x _ hx => by
     rw [hS'] at hx
     split at hx
     ·simp at hx
     ·exact hx) (by simpa using hin) (by simp [hSi]) (by simp only [hS']; simp)
    omega
   ·have : s1' = fun l => l3 s t (fun j => (listed.setIfInBounds i true).getD j false) l n := by
     funext l
     by_cases hw : l ∈ (t i).2
     ·rw [h2 l hw]
      rw [rY (i := i + 1) n (by omega) (fun j h1 h2 h3 h4 => by
       rw [hS', if_neg (by omega)] at h3
       exact later j l (by omega) h2 h3 h4 (.inr hw))]
      unfold l3
      rw [if_pos ⟨by rw [hS']; simp, hw⟩]
     ·rw [h3 l hw]
      refine aaT n (fun j hj hlj => ?_)
      rw [hS', if_neg (fun e => by subst e; exact hw hlj)]
    rw [← this]; exact R'
theorem alj {m : Nat} {o0 : Oper} {p : AV × Tr} (hops : aag P E Γ) (hF : FOK X) (hok : ops.toList.all (xH X.nt) = true) (hm : ops[m]? = some o0)
  (hstep : ∀ i o, i < m → ops[i]? = some o → oO E Γ ops o (s i) = some (s (i + 1), t i)) (hpan : wQ E Γ ops o0 (s m) = some p)
  (hord : ∀ i j, i < m → j < i → Anc ops i j ∨ pN (t j) (t i) = true) (hordP : ∀ j, j < m → Anc ops m j ∨ pN (t j) p.2 = true) (hlate : ∀ j, m < j → j < ops.size → Anc ops j m)
  (hedge : ∀ i o, ops[i]? = some o → ∀ e ∈ o.after, Region.binds .any e = true → e.on < i)
  (hend : ∀ chain a' w' S, abX X S a' p.1 chain w' → Q (.panic chain) a' w') :
  ∀ (fuel : Nat) (listed : Array Bool) (G : Gh) (a : Act) (w : World), listed.size = ops.size → (List.range ops.size).countP (fun i => !listed.getD i false) ≤ fuel →
   (∀ i o, ops[i]? = some o → listed.getD i false = true → ∀ e ∈ o.after, Region.binds .any e = true → listed.getD e.on false = true) → listed.getD m false = false →
   Rel X G (fun l => l3 s t (fun i => listed.getD i false) l m) a w → wpAny P .any ops Q fuel listed a w := by
 have hms : m < ops.size := (Array.getElem?_eq_some_iff.1 hm).1
 have hfr : ∀ i, i < m → ∀ l, l ∉ (t i).2 → s (i + 1) l = s i l := by
  intro i hi l hl
  have : ops[i]? = some ops[i] := Array.getElem?_eq_getElem (by omega)
  exact (tC (hstep i _ hi this)).1 l hl
 have closed : ∀ {S : Nat → Bool}, (∀ i o, ops[i]? = some o → S i = true → ∀ e ∈ o.after, Region.binds .any e = true → S e.on = true) → ∀ {i j}, Anc ops i j → S i = true → S j = true := by
  intro S hS i j h
  induction h with
  | one ho he hb => intro hi; exact hS _ _ ho hi _ he hb
  | more ho he hb h ih => intro hi; exact ih (hS _ _ ho hi _ he hb)
 have ready_all : ∀ (listed : Array Bool), listed.size = ops.size → Region.ready .any ops listed = [] → ∀ i, i < ops.size → listed.getD i false = true := by
  intro listed hsz hr i
  induction i using Nat.strongRecOn with
  | _ i ih =>
   intro hi
   cases hl : listed.getD i false with
   | true => rfl
   | false =>
    exfalso
    have ho : ops[i]? = some ops[i] := Array.getElem?_eq_getElem (by omega)
    have : i ∈ Region.ready .any ops listed := mem_ready.2 ⟨by
     have hlt : i < listed.size := by omega
     simpa [Array.getD_eq_getD_getElem?, Array.getElem?_eq_getElem hlt] using hl, _, ho, fun e he hb => by
     have := hedge i _ ho e he hb
     exact ih e.on this (by omega)⟩
    rw [hr] at this
    cases this
 intro fuel
 induction fuel with
 | zero =>
  intro listed G a w hsz hc hcl hml R
  exfalso
  have h0 : (List.range ops.size).countP (fun i => !listed.getD i false) = 0 := by omega
  have := (List.countP_eq_zero.1 h0) m (by simpa using hms)
  simp [hml] at this
 | succ fuel ih =>
  intro listed G a w hsz hc hcl hml R
  refine ⟨(fun hr => by have := ready_all listed hsz hr m hms; rw [hml] at this; cases this), fun i hi => ?_⟩
  obtain ⟨h0, o, ho, hpre⟩ := mem_ready.1 hi
  have his : i < ops.size := (Array.getElem?_eq_some_iff.1 ho).1
  have hlt : i < listed.size := by omega
  have hSi : listed.getD i false = false := by
   simp [Array.getD_eq_getD_getElem?, Array.getElem?_eq_getElem hlt] at h0 ⊢
   exact h0
  have hS' : ∀ j, (listed.setIfInBounds i true).getD j false = if i = j then true else listed.getD j false := by
   intro j
   simp only [Array.getD_eq_getD_getElem?, Array.getElem?_setIfInBounds]
   by_cases e : i = j
   ·subst e; simp [hlt]
   ·simp [e]
  have hcl' : ∀ i' o', ops[i']? = some o' → (listed.setIfInBounds i true).getD i' false = true → ∀ e ∈ o'.after, Region.binds .any e = true → (listed.setIfInBounds i true).getD e.on false = true := by
   intro i' o' ho' hi' e he hb
   rw [hS'] at hi' ⊢
   split
   ·rfl
   ·split at hi'
    ·rename_i e1; subst e1
     rw [ho] at ho'; obtain rfl := Option.some.inj ho'
     exact hpre e he hb
    ·exact hcl i' o' ho' hi' e he hb
  by_cases hmi : i = m
  ·subst hmi
   rw [hm] at ho
   obtain rfl := Option.some.inj ho
   refine aiN hops hF hm ?_ (aiV hpan (fun l => l3 s t (fun i => listed.getD i false) l i) (fun l hl => ?_)) R hend
   ·exact (List.all_eq_true.1 hok) o0 (Array.mem_toList_iff.2 (Array.mem_of_getElem? hm))
   ·refine xY (fun i hi hl => hfr i hi l hl) i (Nat.le_refl _) (fun j hj hw => ?_)
    rcases hordP j hj with han | hap
    ·have h1 : (listed.setIfInBounds i true).getD i false = true := by rw [hS']; simp
     have := closed (S := fun k => (listed.setIfInBounds i true).getD k false) hcl' han h1
     simp only [hS'] at this
     rw [if_neg (by omega)] at this
     exact this
    ·simp only [pN, Bool.and_eq_true] at hap
     exact (n7 hap.1.1 hw hl).elim
  have hin : i < m := by
   rcases Nat.lt_or_ge i m with h | h
   ·exact h
   ·exfalso
    have h1 : (listed.setIfInBounds i true).getD i false = true := by rw [hS']; simp
    have := closed (S := fun k => (listed.setIfInBounds i true).getD k false) hcl' (hlate i (by omega) his) h1
    simp only [hS'] at this
    rw [if_neg hmi, hml] at this
    cases this
  have later : ∀ j l, i < j → j < m → listed.getD j false = true → l ∈ (t j).2 → (l ∈ (t i).1 ∨ l ∈ (t i).2) → False := by
   intro j l hij hj hSj hl hor
   rcases hord j i hj hij with han | hap
   ·have := closed hcl han hSj
    rw [hSi] at this; cases this
   ·simp only [pN, Bool.and_eq_true] at hap
    rcases hor with h' | h'
    ·exact n7 hap.2 h' hl
    ·exact n7 hap.1.2 h' hl
  have earlier : ∀ j l, j < i → l ∈ (t j).2 → l ∈ (t i).1 → listed.getD j false = true := by
   intro j l hji hl hr
   rcases hord i j hin hji with han | hap
   ·have h1 : (listed.setIfInBounds i true).getD i false = true := by rw [hS']; simp
    have := closed (S := fun k => (listed.setIfInBounds i true).getD k false) hcl' han h1
    simp only [hS'] at this
    rw [if_neg (by omega)] at this
    exact this
   ·simp only [pN, Bool.and_eq_true] at hap
    exact (n7 hap.1.1 hl hr).elim
  have hst := hstep i o hin ho
  obtain ⟨_, hframe⟩ := tC hst
  obtain ⟨s1', h1, h2, h3⟩ := hframe (fun l => l3 s t (fun i => listed.getD i false) l m) (fun l hl => by
   rw [rY (i := i) m (by omega) (fun j h1 h2 h3 h4 => by
    by_cases e : i = j
    ·subst e; rw [hSi] at h3; cases h3
    ·exact later j l (by omega) h2 h3 h4 (.inl hl))]
   exact xY (fun i hi hl => hfr i hi l hl) i (by omega) (fun j hj hw => earlier j l hj hw hl))
  refine abU hops hF ho ?_ h1 R (fun G' a' w' R' => ?_)
  ·exact (List.all_eq_true.1 hok) o (Array.mem_toList_iff.2 (Array.mem_of_getElem? ho))
  ·refine ih _ G' a' w' (by simpa using hsz) ?_ hcl' (by rw [hS', if_neg hmi]; exact hml) ?_
   ·have hlt := abi (f := fun j => !listed.getD j false) (g := fun j => !(listed.setIfInBounds i true).getD j false) (i := i) (List.range ops.size) (fun x _ hx => by
     rw [hS'] at hx
     split at hx
     ·simp at hx
     ·exact hx) (by simpa using his) (by simp [hSi]) (by simp only [hS']; simp)
    omega
   ·have : s1' = fun l => l3 s t (fun j => (listed.setIfInBounds i true).getD j false) l m := by
     funext l
     by_cases hw : l ∈ (t i).2
     ·rw [h2 l hw]
      rw [rY (i := i + 1) m (by omega) (fun j h1 h2 h3 h4 => by
       rw [hS', if_neg (by omega)] at h3
       exact later j l (by omega) h2 h3 h4 (.inr hw))]
      unfold l3
      rw [if_pos ⟨by rw [hS']; simp, hw⟩]
     ·rw [h3 l hw]
      refine aaT m (fun j hj hlj => ?_)
      rw [hS', if_neg (fun e => by subst e; exact hw hlj)]
    rw [← this]; exact R'
end
theorem Rel.drew (R : Rel X G st a w) : Rel X G st a { w with drawn := w.drawn + 1 } := R.ext ⟨rfl, rfl, rfl, Nat.le_refl _, fun _ _ => rfl⟩
theorem ajC (EO : dE P E) (hops : aag P E Γ) : aeQ P E Γ := by
 intro ops st k kp out h id X G a w Q hF hok R hK hP
 have edge : gA ops = true → ∀ i o, ops[i]? = some o → ∀ e ∈ o.after, Region.binds .any e = true → e.on < i := by
  intro h1 i o ho e he hb
  simp only [gA, List.all_eq_true] at h1
  have hm : (o, i) ∈ ops.toList.zipIdx := by
   rw [List.mem_zipIdx_iff_getElem?, Array.getElem?_toList]; exact ho
  have h2 := Array.all_eq_true_iff_forall_mem.1 (h1 (o, i) hm) e he
  simp only [hb, Bool.not_true, Bool.false_or] at h2
  exact Nat.le_of_ble_eq_true h2
 have none_listed : ∀ i, (Array.replicate ops.size false).getD i false = false := fun i => by
  simp only [Array.getD_eq_getD_getElem?, Array.getElem?_replicate]
  split <;> rfl
 have start : ∀ (s : Nat → Sto) (t : Nat → Tr) (n : Nat), s 0 = st → Rel X G (fun l => l3 s t (fun i => (Array.replicate ops.size false).getD i false) l n) a { w with drawn := w.drawn + 1 } := fun s t n h0 => by
  have : (fun l => l3 s t (fun i => (Array.replicate ops.size false).getD i false) l n) = st := by
   funext l
   rw [rY (i := 0) n (by omega) (fun j _ hj hl => by rw [none_listed] at hl; cases hl)]
   simp [l3, h0]
  rw [this]; exact R.drew
 rcases acy ops.toList st [] h with ⟨s, t, h0, hs, hk⟩ | ⟨s, t, m, o0, p, S, h0, hm, hs, hp, hk⟩
 ·simp only [List.append_nil, Array.length_toList] at hk
  split at hk
  ·rename_i hc
   simp only [Bool.and_eq_true] at hc
   have hstep : ∀ i o, ops[i]? = some o → oO E Γ ops o (s i) = some (s (i + 1), t i) := fun i o ho => hs i o (by rw [Array.getElem?_toList]; exact ho)
   refine wp_region_any EO.mixed (al4 (n := ops.size) (s := s) (t := t) hops hF hok rfl hstep (fun i j hi hj => ?_) (edge hc.1) (fun G' a' w' R' => hK _ hk G' a' w' R') ops.size _ G a _ (by simp) ?_ ?_ (start s t _ h0))
   ·exact (zU ops.size hc.2 i j hi hj).imp (wW ops i j) (fun h => h)
   ·exact Nat.le_trans List.countP_le_length (by simp)
   ·intro i o ho hl
    rw [none_listed] at hl; cases hl
  ·cases hk
 ·simp only [List.append_nil] at hk
  split at hk
  ·rename_i hc
   simp only [Bool.and_eq_true, vH, List.length_cons, List.length_reverse, List.length_map, List.length_range, List.all_eq_true, List.mem_range, Bool.or_eq_true, Nat.add_sub_cancel] at hc
   obtain ⟨hc1, hc2, hc3⟩ := hc
   have hm : ops[m]? = some o0 := by rw [← Array.getElem?_toList]; exact hm
   simp only [jP, Bool.and_eq_true, List.length_reverse, List.length_map, List.length_range] at hc2
   refine wp_region_any EO.mixed (alj (m := m) (s := s) (t := t) hops hF hok hm (fun i o hi ho => hs i o hi (by rw [Array.getElem?_toList]; exact ho)) hp (fun i j hi hj => ?_) (fun j hj => ?_) (fun j hj hjs => ?_) (edge hc1) (hP _ hk) ops.size _ G a _ (by simp) ?_ ?_ (none_listed m) (start s t _ h0))
   ·exact (zU m hc2.1 i j hi hj).imp (wW ops i j) (fun h => h)
   ·exact (aah m hc2.2 j hj).imp (wW ops m j) (fun h => h)
   ·rcases hc3 j hjs with h1 | h1
    ·have := Nat.le_of_ble_eq_true h1; omega
    ·exact wW ops j m h1
   ·exact Nat.le_trans List.countP_le_length (by simp)
   ·intro i o ho hl
    rw [none_listed] at hl; cases hl
  ·cases hk
end
end PX
set_option linter.unusedVariables false
set_option linter.unusedSimpArgs false
namespace PX
open Go
structure Sat (G G' : Gh) (c : List Cn) (N : List (Nat × Value)) : Prop where
 F : ∀ k, G.F k → G'.F k
 bx : ∀ o n, Cn.bx o n ∈ c → G'.bb n = G.bb o
 rw : ∀ o n, Cn.rw o n ∈ c → G'.rv n = G.rv o
 it : ∀ o n, Cn.it o n ∈ c → G'.ib n = G.ib o
 fz : ∀ o, Cn.fz o ∈ c → ∀ g, rowBlk (G.rv o) = some g → G'.F g
 nil : ∀ p ∈ N, G'.rv p.1 = p.2
theorem Sat.left {G G' : Gh} {c d : List Cn} {N M : List (Nat × Value)} (h : Sat G G' (c ++ d) (N ++ M)) : Sat G G' c N :=
 ⟨h.F, fun o n hm => h.bx o n (by simp [hm]), fun o n hm => h.rw o n (by simp [hm]), fun o n hm => h.it o n (by simp [hm]), fun o hm => h.fz o (by simp [hm]), fun p hp => h.nil p (by simp [hp])⟩
theorem Sat.right {G G' : Gh} {c d : List Cn} {N M : List (Nat × Value)} (h : Sat G G' (c ++ d) (N ++ M)) : Sat G G' d M :=
 ⟨h.F, fun o n hm => h.bx o n (by simp [hm]), fun o n hm => h.rw o n (by simp [hm]), fun o n hm => h.it o n (by simp [hm]), fun o hm => h.fz o (by simp [hm]), fun p hp => h.nil p (by simp [hp])⟩
def nils : List Cn → List Nat
 | [] => []
 | .nilr n _ _ _ :: r => n :: nils r
 | _ :: r => nils r
theorem oZ : ∀ c d : List Cn, nils (c ++ d) = nils c ++ nils d
 | [], d => rfl
 | x :: c, d => by cases x <;> simp [nils, oZ c d]
def newLoc : Cn → Option Loc
 | .bx _ n => some (.bx n)
 | .rw _ n => some (.rw n)
 | .nilr n _ _ _ => some (.rw n)
 | .it _ n => some (.it n)
 | .fz _ => none
def m9 (st : Sto) : Cn → Prop
 | .rw o _ => ∃ ks e b xs, st (.rw o) = .row ks e b xs false
 | .fz o => ∃ ks e b xs f, st (.rw o) = .row ks e b xs f
 | .nilr _ ks _ _ => ks.all CK.isData = true ∧ 0 < ks.length
 | .it o _ => ∃ s p, st (.it o) = .iter s p
 | _ => True
structure ajE (G : Gh) (w : World) (v' : AV) (c : List Cn) (N : List (Nat × Value)) (u : Value) : Prop where
 names : N.map (·.1) = nils c
 empty : ∀ p ∈ N, ∃ b, p.2 = .slice b 0 0
 val : ∀ G', Sat G G' c N → AVR G' w v' u
 refs : ∀ l ∈ v'.refs, ∃ x ∈ c, newLoc x = some l
structure anJ (G : Gh) (w : World) (vs' : List AV) (c : List Cn) (N : List (Nat × Value)) (us : List Value) : Prop where
 names : N.map (·.1) = nils c
 empty : ∀ p ∈ N, ∃ b, p.2 = .slice b 0 0
 val : ∀ G', Sat G G' c N → AVRs G' w vs' us
 refs : ∀ l ∈ AV.refsL vs', ∃ x ∈ c, newLoc x = some l
section
variable {P : Program} {E : Env} {Γ : Fun} {X : Ctx} {G : Gh} {st : Sto} {a : Act} {w : World}
theorem Sat.pP {G' : Gh} {c N} {v : AV} {u : Value} (h : AVR G w v u) (hr : v.refs = []) (hs : Sat G G' c N) : AVR G' w v u :=
 h.mono hs.F (fun _ _ => rfl) (fun l hl => by rw [hr] at hl; cases hl)
theorem ajE.plain {v' : AV} {u : Value} (h : ∀ G', (∀ k, G.F k → G'.F k) → AVR G' w v' u) (hr : v'.refs = []) : ajE G w v' [] [] u :=
 ⟨rfl, by simp, fun G' hs => h G' hs.F, by rw [hr]; simp⟩
theorem aiM {ks : List CK} : (xC ks && !ks.isEmpty) = true ↔ ks.all CK.isData = true ∧ 0 < ks.length := by
 cases ks <;> simp [xC]
mutual
theorem afd (R : Rel X G st a w) : ∀ (sh : Sh) {v : AV} {u : Value} {v' : AV} {c : List Cn}, conv st sh v = some (v', c) → AVR G w v u →
  (∃ N, ajE G w v' c N u) ∧ (∀ x ∈ c, m9 st x) ∧ Sh.co sh v' = v' ∧ (v.one = true → v'.one = true)
 | .int k, v, u, v', c, h, hv => by
  cases hv <;> (try simp only [conv] at h) <;> first | (cases h; done) | skip
  case d kk x hd =>
   cases x <;> (try simp only [conv] at h) <;> first | (cases h; done) | skip
   split at h
   ·rename_i hk
    have := xJ hk; subst this
    simp only [Option.some.injEq, Prod.mk.injEq] at h
    obtain ⟨rfl, rfl⟩ := h
    exact ⟨⟨[], .plain (fun G' hF => .d (hd.mono hF (fun _ _ => rfl))) rfl⟩, by simp, rfl, fun _ => rfl⟩
   ·cases h
 | .bool, v, u, v', c, h, hv => by
  cases hv <;> (try simp only [conv] at h) <;> first | (cases h; done) | skip
  case d kk x hd =>
   cases x <;> (try simp only [conv] at h) <;> first | (cases h; done) | skip
   simp only [Option.some.injEq, Prod.mk.injEq] at h
   obtain ⟨rfl, rfl⟩ := h
   exact ⟨⟨[], .plain (fun G' hF => .d (hd.mono hF (fun _ _ => rfl))) rfl⟩, by simp, rfl, fun _ => rfl⟩
 | .str, v, u, v', c, h, hv => by
  cases hv <;> (try simp only [conv] at h) <;> first | (cases h; done) | skip
  case d kk x hd =>
   cases x <;> (try simp only [conv] at h) <;> first | (cases h; done) | skip
   simp only [Option.some.injEq, Prod.mk.injEq] at h
   obtain ⟨rfl, rfl⟩ := h
   exact ⟨⟨[], .plain (fun G' hF => .d (hd.mono hF (fun _ _ => rfl))) rfl⟩, by simp, rfl, fun _ => rfl⟩
 | .sl ks, v, u, v', c, h, hv => by
  cases hv <;> (try simp only [conv] at h) <;> first | (cases h; done) | skip
  case d kk x hd =>
   cases x <;> (try simp only [conv] at h) <;> first | (cases h; done) | skip
   split at h
   ·rename_i hk
    have := dY hk; subst this
    simp only [Option.some.injEq, Prod.mk.injEq] at h
    obtain ⟨rfl, rfl⟩ := h
    exact ⟨⟨[], .plain (fun G' hF => .d (hd.mono hF (fun _ _ => rfl))) rfl⟩, by simp, rfl, fun _ => rfl⟩
   ·cases h
  case nil b =>
   split at h
   ·rename_i hk
    simp only [Option.some.injEq, Prod.mk.injEq] at h
    obtain ⟨rfl, rfl⟩ := h
    exact ⟨⟨[], .plain (fun G' hF => .d (.sl ks [] b 0 (fun _ _ => undef) (by simp) (by simp) (by simp) hk (by simp) (by simp))) rfl⟩, by simp, rfl, fun _ => rfl⟩
   ·cases h
  case row r =>
   split at h
   ·rename_i ks' e by_ xs fz hr
    split at h
    ·rename_i hk
     have := dY hk; subst this
     simp only [Option.some.injEq, Prod.mk.injEq] at h
     obtain ⟨rfl, rfl⟩ := h
     obtain ⟨q1, q2, q3, q4, q5⟩ := R.rw r _ _ _ _ _ hr
     refine ⟨⟨[], rfl, by simp, fun G' hs => .d (k := .sl ks) ?_, by simp [AV.refs]⟩, fun x hx => by (obtain rfl := List.mem_singleton.1 hx); simp only [m9]; exact ⟨_, _, _, _, by first | exact hr | exact ⟨_, hr⟩⟩, rfl, fun _ => rfl⟩
     exact (q4.mono hs.F (fun _ _ => rfl) (fun _ _ => rfl)).data q3 (fun g hg => hs.fz r (by simp) g hg)
    ·cases h
   ·cases h
  case win r lo n b a' n0 c0 c' hvv hn hc' ha =>
   split at h
   ·rename_i ks' e by_ xs fz hr
    split at h
    ·rename_i hk
     have := dY hk; subst this
     simp only [Option.some.injEq, Prod.mk.injEq] at h
     obtain ⟨rfl, rfl⟩ := h
     obtain ⟨q1, q2, q3, q4, q5⟩ := R.rw r _ _ _ _ _ hr
     have hwin : AVR G w (.win r lo n) (.slice a' n c') := .win r lo n b a' n0 c0 c' hvv hn hc' ha
     refine ⟨⟨[], rfl, by simp, fun G' hs => .d (k := .sl ks) ?_, by simp [AV.refs]⟩, fun x hx => by (obtain rfl := List.mem_singleton.1 hx); simp only [m9]; exact ⟨_, _, _, _, by first | exact hr | exact ⟨_, hr⟩⟩, rfl, fun _ => rfl⟩
     obtain ⟨⟨base, cc, z1, z2, z3, z4⟩, z5⟩ := (w3 R hr hwin).1
     have hs' : SlV G'.F w ks ((xs.drop lo).take n) (.slice a' n c') :=
      ⟨⟨base, cc, z1, z2, z3, fun ad j el i d k y1 y2 y3 y4 => by obtain ⟨u, hu, hd⟩ := z4 ad j el i d k y1 y2 y3 y4; exact ⟨u, hu, hd.mono hs.F (fun _ _ => rfl)⟩⟩, z5⟩
     refine hs'.data q3 (fun b' n' c'' hb hx => ?_)
     rw [hb] at hwin
     exact hs.fz r (by simp) _ (acR R hr hwin hx)
    ·cases h
   ·cases h
 | .row k ks e by_, v, u, v', c, h, hv => by
  cases hv <;> (try simp only [conv] at h) <;> first | (cases h; done) | skip
  case nil b =>
   split at h
   ·rename_i hk
    simp only [Option.some.injEq, Prod.mk.injEq] at h
    obtain ⟨rfl, rfl⟩ := h
    refine ⟨⟨[(k, .slice b 0 0)], rfl, by simp, fun G' hs => ?_, ?_⟩, by simpa [m9] using aiM.1 hk, rfl, fun _ => rfl⟩
    ·have := hs.nil (k, .slice b 0 0) (by simp)
     have h2 := AVR.row (G := G') (w := w) k
     rwa [this] at h2
    ·intro l hl
     simp only [AV.refs, List.mem_singleton] at hl
     subst hl
     exact ⟨_, List.mem_singleton.2 rfl, rfl⟩
   ·cases h
  case row r =>
   split at h
   ·rename_i ks' e' by' xs hr
    split at h
    ·rename_i hk
     simp only [Option.some.injEq, Prod.mk.injEq] at h
     obtain ⟨rfl, rfl⟩ := h
     refine ⟨⟨[], rfl, by simp, fun G' hs => ?_, ?_⟩, fun x hx => by (obtain rfl := List.mem_singleton.1 hx); simp only [m9]; exact ⟨_, _, _, _, by first | exact hr | exact ⟨_, hr⟩⟩, rfl, fun _ => rfl⟩
     ·have := hs.rw r k (by simp)
      rw [← this]; exact .row k
     ·intro l hl
      simp only [AV.refs, List.mem_singleton] at hl
      subst hl
      exact ⟨_, List.mem_singleton.2 rfl, rfl⟩
    ·cases h
   ·cases h
 | .win r, v, u, v', c, h, hv => by cases hv <;> (try simp only [conv] at h) <;> cases h
 | .ptr b o, v, u, v', c, h, hv => by
  cases hv <;> (try simp only [conv] at h) <;> first | (cases h; done) | skip
  case ptr b' o' =>
   split at h
   ·rename_i hk
    have := Nat.eq_of_beq_eq_true hk; subst this
    simp only [Option.some.injEq, Prod.mk.injEq] at h
    obtain ⟨rfl, rfl⟩ := h
    refine ⟨⟨[], rfl, by simp, fun G' hs => ?_, ?_⟩, by simp [m9], rfl, fun _ => rfl⟩
    ·have := hs.bx b' b (by simp)
     rw [← this]; exact .ptr b o
    ·intro l hl
     simp only [AV.refs, List.mem_singleton] at hl
     subst hl
     exact ⟨_, List.mem_singleton.2 rfl, rfl⟩
   ·cases h
 | .agg ss, v, u, v', c, h, hv => by
  cases hv <;> (try simp only [conv] at h) <;> first | (cases h; done) | skip
  case agg cs vs hcs =>
   split at h
   ·rename_i l c' hl
    simp only [Option.some.injEq, Prod.mk.injEq] at h
    obtain ⟨rfl, rfl⟩ := h
    obtain ⟨⟨N, h1⟩, h2, h3, _⟩ := mX R ss hl hcs
    exact ⟨⟨N, h1.names, h1.empty, fun G' hs => .agg _ _ (h1.val G' hs), by simpa [AV.refs] using h1.refs⟩, h2, by simp [Sh.co, cellsOf, h3], by simp [AV.one]⟩
   ·cases h
 | .it i, v, u, v', c, h, hv => by
  cases hv <;> (try simp only [conv] at h) <;> first | (cases h; done) | skip
  case it j =>
   split at h
   ·rename_i s p hit
    simp only [Option.some.injEq, Prod.mk.injEq] at h
    obtain ⟨rfl, rfl⟩ := h
    refine ⟨⟨[], rfl, by simp, fun G' hs => ?_, ?_⟩, fun x hx => by (obtain rfl := List.mem_singleton.1 hx); exact ⟨_, _, hit⟩, rfl, fun _ => rfl⟩
    ·have := hs.it j i (by simp)
     rw [← this]; exact .it i
    ·intro l hl
     simp only [AV.refs, List.mem_singleton] at hl
     subst hl
     exact ⟨_, List.mem_singleton.2 rfl, rfl⟩
   ·cases h
 | .nilp, v, u, v', c, h, hv => by
  cases hv <;> (try simp only [conv] at h) <;> first | (cases h; done) | skip
  simp only [Option.some.injEq, Prod.mk.injEq] at h
  obtain ⟨rfl, rfl⟩ := h
  exact ⟨⟨[], .plain (fun G' hF => .nilp) rfl⟩, by simp, rfl, fun _ => rfl⟩
 | .fn f xs ys, v, u, v', c, h, hv => by
  cases hv <;> (try simp only [conv] at h) <;> first | (cases h; done) | skip
  case fn g p q vp vq hp hq =>
   split at h
   ·rename_i hfg
    have := Nat.eq_of_beq_eq_true hfg; subst this
    split at h
    ·rename_i l c1 hl
     split at h
     ·rename_i l2 c2 hl2
      simp only [Option.some.injEq, Prod.mk.injEq] at h
      obtain ⟨rfl, rfl⟩ := h
      obtain ⟨⟨N1, h1⟩, h2, h3, _⟩ := mX R xs hl hp
      obtain ⟨⟨N2, k1⟩, k2, k3, _⟩ := mX R ys hl2 hq
      refine ⟨⟨N1 ++ N2, by simp [oZ, h1.names, k1.names], fun p hp => ?_, fun G' hs => .fn _ _ _ _ _ (h1.val G' hs.left) (k1.val G' hs.right), fun l hl => ?_⟩, fun x hx => ?_, by simp [Sh.co, h3, k3], fun _ => rfl⟩
      ·rcases List.mem_append.1 hp with hp | hp
       ·exact h1.empty p hp
       ·exact k1.empty p hp
      ·simp only [AV.refs, List.mem_append] at hl
       rcases hl with hl | hl
       ·obtain ⟨x, hx, hn⟩ := h1.refs l hl; exact ⟨x, by simp [hx], hn⟩
       ·obtain ⟨x, hx, hn⟩ := k1.refs l hl; exact ⟨x, by simp [hx], hn⟩
      ·rcases List.mem_append.1 hx with hx | hx
       ·exact h2 x hx
       ·exact k2 x hx
     ·cases h
    ·cases h
   ·cases h
 | .ifc t s, v, u, v', c, h, hv => by
  cases hv <;> (try simp only [conv] at h) <;> first | (cases h; done) | skip
  case ifc t' x y hx =>
   split at h
   ·rename_i htt
    have := Nat.eq_of_beq_eq_true htt; subst this
    split at h
    ·rename_i x' c' hl
     simp only [Option.some.injEq, Prod.mk.injEq] at h
     obtain ⟨rfl, rfl⟩ := h
     obtain ⟨⟨N, h1⟩, h2, h3, _⟩ := afd R s hl hx
     exact ⟨⟨N, h1.names, h1.empty, fun G' hs => .ifc _ _ _ (h1.val G' hs), by simpa [AV.refs] using h1.refs⟩, h2, by simp [Sh.co, h3], fun _ => rfl⟩
    ·cases h
   ·cases h
 | .any, v, u, v', c, h, hv => by
  have h' : v.refs = [] ∧ v' = v ∧ c = [] := by
   cases v <;> simp only [conv] at h <;> split at h <;> first | (cases h; done) | skip
   all_goals
    rename_i hr
    simp only [Option.some.injEq, Prod.mk.injEq] at h
    exact ⟨hr, h.1.symm, h.2.symm⟩
  obtain ⟨hr, rfl, rfl⟩ := h'
  exact ⟨⟨[], .plain (fun G' hF => hv.mono hF (fun _ _ => rfl) (fun l hl => by rw [hr] at hl; cases hl)) hr⟩, by simp, rfl, fun h => h⟩
theorem mX (R : Rel X G st a w) : ∀ (ss : List Sh) {vs : List AV} {us : List Value} {vs' : List AV} {c : List Cn}, pH st ss vs = some (vs', c) → AVRs G w vs us →
  (∃ N, anJ G w vs' c N us) ∧ (∀ x ∈ c, m9 st x) ∧ Sh.coL ss vs' = vs' ∧ (vs.all AV.one = true → vs'.all AV.one = true)
 | [], vs, us, vs', c, h, hv => by
  cases hv <;> (try simp only [pH] at h) <;> first | (cases h; done) | skip
  simp only [Option.some.injEq, Prod.mk.injEq] at h
  obtain ⟨rfl, rfl⟩ := h
  exact ⟨⟨[], rfl, by simp, fun _ _ => .nil, by simp [AV.refsL]⟩, by simp, rfl, fun _ => rfl⟩
 | s :: ss, vs, us, vs', c, h, hv => by
  cases hv <;> (try simp only [pH] at h) <;> first | (cases h; done) | skip
  case cons x y vs us hx hs =>
   split at h
   ·rename_i x' c1 hl
    split at h
    ·rename_i l2 c2 hl2
     simp only [Option.some.injEq, Prod.mk.injEq] at h
     obtain ⟨rfl, rfl⟩ := h
     obtain ⟨⟨N1, h1⟩, h2, h3, h4⟩ := afd R s hl hx
     obtain ⟨⟨N2, k1⟩, k2, k3, k4⟩ := mX R ss hl2 hs
     refine ⟨⟨N1 ++ N2, by simp [oZ, h1.names, k1.names], fun p hp => ?_, fun G' hs => .cons _ _ _ _ (h1.val G' hs.left) (k1.val G' hs.right), fun l hl => ?_⟩, fun x hx => ?_, by simp [Sh.coL, h3, k3], fun ho => ?_⟩
     ·rcases List.mem_append.1 hp with hp | hp
      ·exact h1.empty p hp
      ·exact k1.empty p hp
     ·simp only [AV.refsL, List.mem_append] at hl
      rcases hl with hl | hl
      ·obtain ⟨x, hx, hn⟩ := h1.refs l hl; exact ⟨x, by simp [hx], hn⟩
      ·obtain ⟨x, hx, hn⟩ := k1.refs l hl; exact ⟨x, by simp [hx], hn⟩
     ·rcases List.mem_append.1 hx with hx | hx
      ·exact h2 x hx
      ·exact k2 x hx
     ·simp only [List.all_cons, Bool.and_eq_true] at ho ⊢
      exact ⟨h4 ho.1, k4 ho.2⟩
    ·cases h
   ·cases h
end
end
end PX
set_option linter.unusedVariables false
set_option linter.unusedSimpArgs false
namespace PX
open Go
def zP (n : Nat) : List (Nat × Value) → Value
 | [] => .slice none 0 0
 | (m, u) :: r => if m = n then u else zP n r
def vI (G : Gh) (N : List (Nat × Value)) (n : Nat) : List Cn → Value
 | [] => .slice none 0 0
 | .rw o m :: r => if m = n then G.rv o else vI G N n r
 | .nilr m _ _ _ :: r => if m = n then zP n N else vI G N n r
 | _ :: r => vI G N n r
def ad7 (G : Gh) (n : Nat) : List Cn → Nat
 | [] => 0
 | .bx o m :: r => if m = n then G.bb o else ad7 G n r
 | _ :: r => ad7 G n r
def afc (G : Gh) (n : Nat) : List Cn → Nat
 | [] => 0
 | .it o m :: r => if m = n then G.ib o else afc G n r
 | _ :: r => afc G n r
def Gh.cut (G : Gh) (c : List Cn) (N : List (Nat × Value)) (L : Nat → Nat) : Gh :=
 ⟨fun k => G.F k ∨ ∃ o, Cn.fz o ∈ c ∧ rowBlk (G.rv o) = some k, fun n => ad7 G n c, fun n => vI G N n c, L, fun n => afc G n c⟩
theorem mK : ∀ {c : List Cn}, uD c = true → ∀ {x y : Cn}, x ∈ c → y ∈ c → x = y ∨ Cn.meets x y = false ∨ Cn.meets y x = false
 | [], _, x, y, hx, _ => by simp at hx
 | z :: c, h, x, y, hx, hy => by
  simp only [uD, Bool.and_eq_true, List.all_eq_true, Bool.not_eq_true'] at h
  rcases List.mem_cons.1 hx with rfl | hx1 <;> rcases List.mem_cons.1 hy with rfl | hy1
  ·exact .inl rfl
  ·exact .inr (.inl (h.1 y hy1))
  ·exact .inr (.inr (h.1 x hx1))
  ·exact mK h.2 hx1 hy1
theorem yR : ∀ {c : List Cn} {n : Nat}, n ∈ nils c → ∃ ks e b, Cn.nilr n ks e b ∈ c
 | [], n, h => by simp [nils] at h
 | x :: c, n, h => by
  cases x <;> simp only [nils] at h
  case nilr m ks e b =>
   rcases List.mem_cons.1 h with rfl | h
   ·exact ⟨ks, e, b, by simp⟩
   ·obtain ⟨ks, e, b, h⟩ := yR h; exact ⟨ks, e, b, by simp [h]⟩
  all_goals
   obtain ⟨ks, e, b, h⟩ := yR h; exact ⟨ks, e, b, by simp [h]⟩
theorem age : ∀ {c : List Cn} {n : Nat} {ks e b}, Cn.nilr n ks e b ∈ c → n ∈ nils c
 | [], n, ks, e, b, h => by simp at h
 | x :: c, n, ks, e, b, h => by
  rcases List.mem_cons.1 h with rfl | h
  ·simp [nils]
  ·have := age h
   cases x <;> simp [nils, this]
theorem aeT : ∀ {c : List Cn}, uD c = true → (nils c).Nodup
 | [], _ => by simp [nils]
 | x :: c, h => by
  simp only [uD, Bool.and_eq_true, List.all_eq_true, Bool.not_eq_true'] at h
  have ih := aeT h.2
  cases x <;> simp only [nils] <;> first | exact ih | skip
  case nilr m ks e b =>
   refine List.nodup_cons.2 ⟨fun hm => ?_, ih⟩
   obtain ⟨ks', e', b', hm⟩ := yR hm
   have := h.1 _ hm
   simp [Cn.meets] at this
theorem agr : ∀ {N : List (Nat × Value)}, (N.map (·.1)).Nodup → ∀ {p}, p ∈ N → zP p.1 N = p.2
 | [], _, p, h => by simp at h
 | (m, u) :: N, hd, p, h => by
  simp only [List.map_cons, List.nodup_cons] at hd
  rcases List.mem_cons.1 h with rfl | h
  ·simp [zP]
  ·have hne : m ≠ p.1 := fun e => hd.1 (by rw [e]; exact List.mem_map_of_mem h)
   simp only [zP, if_neg hne]
   exact agr hd.2 h
theorem adb : ∀ {N : List (Nat × Value)} {n : Nat}, (∀ p ∈ N, ∃ b, p.2 = .slice b 0 0) → ∃ b, zP n N = .slice b 0 0
 | [], n, _ => ⟨none, rfl⟩
 | (m, u) :: N, n, h => by
  simp only [zP]
  split
  ·exact h (m, u) (by simp)
  ·exact adb (fun p hp => h p (by simp [hp]))
theorem adW (G : Gh) {o n : Nat} : ∀ {c : List Cn}, (∀ o', Cn.bx o' n ∈ c → o' = o) → Cn.bx o n ∈ c → ad7 G n c = G.bb o
 | [], _, h => by simp at h
 | x :: c, hu, h => by
  cases x <;> simp only [ad7] <;> first | (exact adW G (fun o' ho' => hu o' (by simp [ho'])) (by simpa using h)) | skip
  rename_i o' m
  split
  ·rename_i e; subst e; rw [hu o' (by simp)]
  ·rename_i e
   exact adW G (fun o' ho' => hu o' (by simp [ho'])) (by
    rcases List.mem_cons.1 h with h | h
    ·injection h with e1 e2; exact absurd e2.symm e
    ·exact h)
theorem adO (G : Gh) {o n : Nat} : ∀ {c : List Cn}, (∀ o', Cn.it o' n ∈ c → o' = o) → Cn.it o n ∈ c → afc G n c = G.ib o
 | [], _, h => by simp at h
 | x :: c, hu, h => by
  cases x <;> simp only [afc] <;> first | (exact adO G (fun o' ho' => hu o' (by simp [ho'])) (by simpa using h)) | skip
  rename_i o' m
  split
  ·rename_i e; subst e; rw [hu o' (by simp)]
  ·rename_i e
   exact adO G (fun o' ho' => hu o' (by simp [ho'])) (by
    rcases List.mem_cons.1 h with h | h
    ·injection h with e1 e2; exact absurd e2.symm e
    ·exact h)
theorem aaO (G : Gh) (N) {o n : Nat} : ∀ {c : List Cn}, (∀ o', Cn.rw o' n ∈ c → o' = o) → (∀ ks e b, Cn.nilr n ks e b ∉ c) → Cn.rw o n ∈ c → vI G N n c = G.rv o
 | [], _, _, h => by simp at h
 | x :: c, hu, hn, h => by
  have tl : ∀ {p : Prop}, (Cn.rw o n ∈ c → p) → (x ≠ Cn.rw o n) → p := fun f hne => f ((List.mem_cons.1 h).resolve_left (Ne.symm hne))
  cases x <;> simp only [vI] <;> first | (exact aaO G N (fun o' ho' => hu o' (by simp [ho'])) (fun ks e b hm => hn ks e b (by simp [hm])) (by simpa using h)) | skip
  ·rename_i o' m
   split
   ·rename_i e; subst e; rw [hu o' (by simp)]
   ·rename_i e
    exact aaO G N (fun o' ho' => hu o' (by simp [ho'])) (fun ks e b hm => hn ks e b (by simp [hm])) (by
     rcases List.mem_cons.1 h with h | h
     ·injection h with e1 e2; exact absurd e2.symm e
     ·exact h)
  ·rename_i m ks e b
   split
   ·rename_i e'; subst e'; exact absurd (by simp) (hn ks e b)
   ·exact aaO G N (fun o' ho' => hu o' (by simp [ho'])) (fun ks e b hm => hn ks e b (by simp [hm])) (by simpa using h)
theorem zJ (G : Gh) (N) {n : Nat} : ∀ {c : List Cn}, (∀ o', Cn.rw o' n ∉ c) → n ∈ nils c → vI G N n c = zP n N
 | [], _, h => by simp [nils] at h
 | x :: c, hu, h => by
  cases x <;> simp only [vI] <;> simp only [nils] at h <;> first | (exact zJ G N (fun o' ho' => hu o' (by simp [ho'])) h) | skip
  ·rename_i o' m
   split
   ·rename_i e; subst e; exact absurd (by simp) (hu o')
   ·exact zJ G N (fun o' ho' => hu o' (by simp [ho'])) h
  ·rename_i m ks e b
   split
   ·rfl
   ·rename_i e'
    exact zJ G N (fun o' ho' => hu o' (by simp [ho'])) ((List.mem_cons.1 h).resolve_left (Ne.symm e'))
theorem zE {G : Gh} {N} (hN : ∀ p ∈ N, ∃ b, p.2 = Value.slice b 0 0) (hG : ∀ r, (G.rv r).oneCell' = true) {n : Nat} : ∀ c : List Cn, (vI G N n c).oneCell' = true
 | [] => rfl
 | x :: c => by
  cases x <;> simp only [vI] <;> first | exact zE hN hG c | skip
  ·split
   ·exact hG _
   ·exact zE hN hG c
  ·split
   ·obtain ⟨b, hb⟩ := adb (n := n) hN; rw [hb]; rfl
   ·exact zE hN hG c
theorem beq_false {x y : Nat} (h : x ≠ y) : Nat.beq x y = false := by
 cases hb : Nat.beq x y
 ·rfl
 ·exact absurd (Nat.eq_of_beq_eq_true hb) h
theorem Gh.acV (G : Gh) {c : List Cn} {N : List (Nat × Value)} (L : Nat → Nat) (hc : uD c = true) (hN : N.map (·.1) = nils c) : Sat G (G.cut c N L) c N := by
 refine ⟨fun k hk => .inl hk, fun o n h => ?_, fun o n h => ?_, fun o n h => ?_, fun o h g hg => .inr ⟨o, h, hg⟩, fun p hp => ?_⟩
 ·refine adW G (fun o' ho' => ?_) h
  rcases mK hc ho' h with e | e | e
  ·injection e
  ·simp only [Cn.meets, Nat.beq_refl, bne_eq_false_iff_eq] at e; exact Nat.eq_of_beq_eq_true e
  ·simp only [Cn.meets, Nat.beq_refl, bne_eq_false_iff_eq] at e; exact (Nat.eq_of_beq_eq_true e).symm
 ·refine aaO G N (fun o' ho' => ?_) (fun ks e b hm => ?_) h
  ·rcases mK hc ho' h with e | e | e
   ·injection e
   ·simp only [Cn.meets, Nat.beq_refl, bne_eq_false_iff_eq] at e; exact Nat.eq_of_beq_eq_true e
   ·simp only [Cn.meets, Nat.beq_refl, bne_eq_false_iff_eq] at e; exact (Nat.eq_of_beq_eq_true e).symm
  ·rcases mK hc hm h with e | e | e
   ·cases e
   ·simp [Cn.meets] at e
   ·simp [Cn.meets] at e
 ·refine adO G (fun o' ho' => ?_) h
  rcases mK hc ho' h with e | e | e
  ·injection e
  ·simp only [Cn.meets, Nat.beq_refl, bne_eq_false_iff_eq] at e; exact Nat.eq_of_beq_eq_true e
  ·simp only [Cn.meets, Nat.beq_refl, bne_eq_false_iff_eq] at e; exact (Nat.eq_of_beq_eq_true e).symm
 ·have hn : p.1 ∈ nils c := by rw [← hN]; exact List.mem_map_of_mem hp
  have hnd : (N.map (·.1)).Nodup := by rw [hN]; exact aeT hc
  rw [← agr hnd hp]
  refine zJ G N (fun o' ho' => ?_) hn
  obtain ⟨ks, e, b, hm⟩ := yR hn
  rcases mK hc ho' hm with e | e | e
  ·cases e
  ·simp [Cn.meets] at e
  ·simp [Cn.meets] at e
section
variable {P : Program} {E : Env} {Γ : Fun} {X : Ctx} {G : Gh} {st : Sto} {a : Act} {w : World}
def iJ : LV → Nat | .row ks _ _ _ _ => ks.length | _ => 0
theorem afM (R : Rel X G st a w) {c : List Cn} {N : List (Nat × Value)} {S : Sto} {a' : Act} {m : Nat} {lb' : Nat → Nat} {df' : List Deferred} (hc : uD c = true) (hN : N.map (·.1) = nils c) (hNe : ∀ p ∈ N, ∃ b, p.2 = Value.slice b 0 0)
  (hold : ∀ x ∈ c, m9 st x) (hd : a'.defers = df') (hsz : a'.tmps.size = m)
  (htm : ∀ i v, S (.tm i) = .av v → i < m ∧ AVR (G.cut c N fun n => iJ (S (.rw n))) w v (a'.tmps.getD i undef))
  (hbx : ∀ n t k, S (.bx n) = .bx t k → ∃ o, Cn.bx o n ∈ c ∧ st (.bx o) = .bx t k)
  (hbc : ∀ n i v, S (.bc n i) = .av v → ∃ o t k cs u, Cn.bx o n ∈ c ∧ S (.bx n) = .bx t k ∧ w.heap[G.bb o]? = some (.cells cs t (0, 0)) ∧ cs[i]? = some u ∧ AVR (G.cut c N fun n => iJ (S (.rw n))) w v u ∧ v.one = true)
  (hrw : ∀ n ks e b xs fz, S (.rw n) = .row ks e b xs fz → fz = false ∧ ((∃ o, Cn.rw o n ∈ c ∧ st (.rw o) = .row ks e b xs false) ∨ (Cn.nilr n ks e b ∈ c ∧ xs = [])))
  (hit : ∀ n s p, S (.it n) = .iter s p → ∃ o, Cn.it o n ∈ c ∧ st (.it o) = .iter s p)
  (hlb : ∀ k t n, S (.bx (2000000000 + k)) = .bx t n → (G.cut c N fun n => iJ (S (.rw n))).bb (2000000000 + k) = lb' k)
  (hreg : ∀ l v, S l = .av v → ∀ l' ∈ v.refs, S l' ≠ .none) :
  Rel { X with nt := m, lb := lb', df := df' } (G.cut c N fun n => iJ (S (.rw n))) S a' w := by
 have sat := Gh.acV G (fun n => iJ (S (.rw n))) hc hN
 generalize hG' : (G.cut c N fun n => iJ (S (.rw n))) = G' at *
 have hF' : ∀ k, G'.F k ↔ (G.F k ∨ ∃ o, Cn.fz o ∈ c ∧ rowBlk (G.rv o) = some k) := by intro k; subst hG'; exact Iff.rfl
 have hs0 : lW G.F w w := fun _ _ => rfl
 have hnilv : ∀ {n ks e b}, Cn.nilr n ks e b ∈ c → ∃ b, G'.rv n = .slice b 0 0 := by
  intro n ks e b h
  have hn : n ∈ N.map (·.1) := by rw [hN]; exact age h
  obtain ⟨p, hp, rfl⟩ := List.mem_map.1 hn
  obtain ⟨b, hb⟩ := hNe p hp
  exact ⟨b, by rw [sat.nil p hp]; exact hb⟩
 have fzF : ∀ k o, Cn.fz o ∈ c → rowBlk (G.rv o) = some k → k < w.heap.size ∧ (X.F0 k ∨ X.B ≤ k ∨ X.M k) ∧ (G.F k ∨ blk G st (.rw o) = some k) := by
  intro k o ho hk
  obtain ⟨ks, e, b, xs, f, h⟩ := hold _ ho
  obtain ⟨_, _, _, _, q5⟩ := R.rw o _ _ _ _ _ h
  cases f with
  | true => exact ⟨R.base.Flt _ (q5 rfl k hk), R.base.Fnew _ (q5 rfl k hk), .inl (q5 rfl k hk)⟩
  | false =>
   have hb : blk G st (.rw o) = some k := by simp [blk, h, hk]
   have := R.own _ k hb
   exact ⟨this.2.1, .inr this.2.2, .inr hb⟩
 have hblk : ∀ l k, blk G' S l = some k → (∃ o n, Cn.bx o n ∈ c ∧ l = .bx n ∧ blk G st (.bx o) = some k) ∨ (∃ o n, Cn.rw o n ∈ c ∧ l = .rw n ∧ blk G st (.rw o) = some k) ∨ (∃ o n, Cn.it o n ∈ c ∧ l = .it n ∧ blk G st (.it o) = some k) := by
  intro l k h
  cases l with
  | tm i => simp [blk] at h
  | bc i j => simp [blk] at h
  | bx n =>
   simp only [blk] at h
   split at h
   ·rename_i t kk hS
    obtain ⟨o, ho, hst⟩ := hbx n _ _ hS
    refine .inl ⟨o, n, ho, rfl, ?_⟩
    simp only [blk, hst]
    rw [← h, sat.bx o n ho]
   ·cases h
  | rw n =>
   simp only [blk] at h
   split at h
   ·rename_i ks e b xs hS
    rcases (hrw n _ _ _ _ _ hS).2 with ⟨o, ho, hst⟩ | ⟨ho, _⟩
    ·refine .inr (.inl ⟨o, n, ho, rfl, ?_⟩)
     simp only [blk, hst]
     rw [← h, sat.rw o n ho]
    ·obtain ⟨b', hb'⟩ := hnilv ho
     rw [hb'] at h
     cases b' <;> simp [rowBlk] at h
   ·cases h
  | it n =>
   simp only [blk] at h
   split at h
   ·rename_i s p hS
    obtain ⟨o, ho, hst⟩ := hit n _ _ hS
    refine .inr (.inr ⟨o, n, ho, rfl, ?_⟩)
    simp only [blk, hst]
    rw [← h, sat.it o n ho]
   ·cases h
 refine ⟨⟨R.base.os, R.base.tape, R.base.output, R.base.size, R.base.keep, fun k hk => (hF' k).2 (.inl (R.base.F0 k hk)), fun k hk => ?_, fun k hk => ?_⟩, hd, hsz, htm, ?_, ?_, ?_, ?_, hreg, ?_, ?_, ?_, hlb⟩
 ·rcases (hF' k).1 hk with hk | ⟨o, ho, hk⟩
  ·exact R.base.Flt k hk
  ·exact (fzF k o ho hk).1
 ·rcases (hF' k).1 hk with hk | ⟨o, ho, hk⟩
  ·exact R.base.Fnew k hk
  ·exact (fzF k o ho hk).2.1
 ·intro n t k h
  obtain ⟨o, ho, hst⟩ := hbx n t k h
  obtain ⟨cs, h1, h2⟩ := R.bx o t k hst
  exact ⟨cs, by rw [sat.bx o n ho]; exact h1, h2⟩
 ·intro n i v h
  obtain ⟨o, t, k, cs, u, ho, h1, h2, h3⟩ := hbc n i v h
  exact ⟨t, k, cs, u, h1, by rw [sat.bx o n ho]; exact h2, h3⟩
 ·intro n ks e b xs fz h
  have hrs : G'.rs n = ks.length := by subst hG'; simp [Gh.cut, h, iJ]
  obtain ⟨rfl, h'⟩ := hrw n _ _ _ _ _ h
  rcases h' with ⟨o, ho, hst⟩ | ⟨ho, rfl⟩
  ·obtain ⟨q1, q2, q3, q4, q5⟩ := R.rw o _ _ _ _ _ hst
   refine ⟨hrs, q2, q3, ?_, fun h => by cases h⟩
   rw [sat.rw o n ho]
   exact q4.mono sat.F hs0 (fun _ _ => rfl)
  ·obtain ⟨h1, h2⟩ := hold _ ho
   obtain ⟨b', hb'⟩ := hnilv ho
   exact ⟨hrs, h2, h1, hb' ▸ RowV.nil b', fun h => by cases h⟩
 ·intro n s p h
  obtain ⟨o, ho, hst⟩ := hit n s p h
  rw [sat.it o n ho]
  exact R.it o s p hst
 ·intro l l' k h1 h2
  rcases hblk l k h1 with ⟨o, n, ho, rfl, hb⟩ | ⟨o, n, ho, rfl, hb⟩ | ⟨o, n, ho, rfl, hb⟩ <;> rcases hblk l' k h2 with ⟨o', n', ho', rfl, hb'⟩ | ⟨o', n', ho', rfl, hb'⟩ | ⟨o', n', ho', rfl, hb'⟩ <;>
   have e := R.inj _ _ _ hb hb' <;> first | (cases e; done) | skip
  all_goals
   injection e with e
   subst e
   rcases mK hc ho ho' with e | e | e
   ·injection e with _ e; rw [e]
   ·simp only [Cn.meets, Nat.beq_refl, bne_eq_false_iff_eq] at e; rw [Nat.eq_of_beq_eq_true e.symm]
   ·simp only [Cn.meets, Nat.beq_refl, bne_eq_false_iff_eq] at e; rw [Nat.eq_of_beq_eq_true e.symm]
 ·intro l k h
  have key : ∃ l0, blk G st l0 = some k ∧ ∀ o, Cn.fz o ∈ c → l0 ≠ .rw o := by
   rcases hblk l k h with ⟨o, n, ho, rfl, hb⟩ | ⟨o, n, ho, rfl, hb⟩ | ⟨o, n, ho, rfl, hb⟩
   ·exact ⟨_, hb, fun _ _ => by simp⟩
   ·refine ⟨_, hb, fun o' ho' e => ?_⟩
    injection e with e
    subst e
    rcases mK hc ho ho' with e | e | e
    ·cases e
    ·simp [Cn.meets] at e
    ·simp [Cn.meets] at e
   ·exact ⟨_, hb, fun _ _ => by simp⟩
  obtain ⟨l0, hb, hne⟩ := key
  obtain ⟨h1, h2, h3⟩ := R.own l0 k hb
  refine ⟨fun hk => ?_, h2, h3⟩
  rcases (hF' k).1 hk with hk | ⟨o, ho, hk⟩
  ·exact h1 hk
  ·rcases (fzF k o ho hk).2.2 with hk | hk
   ·exact h1 hk
   ·exact hne o ho (R.inj _ _ _ hb hk)
 ·intro r
  subst hG'
  exact zE hNe R.rv1 c
end
end PX
set_option linter.unusedVariables false
set_option linter.unusedSimpArgs false
namespace PX
open Go
theorem lN : ∀ (bs : List Bx) (B : Nat) (s : Sto) (l : Loc), bO B bs s l = s l ∨ (∃ j b, bs[j]? = some b ∧ l = .bx (B + j) ∧ bO B bs s l = .bx b.t b.cells.length) ∨
  (∃ j b i x, bs[j]? = some b ∧ b.cells[i]? = some x ∧ l = .bc (B + j) i ∧ bO B bs s l = .av x)
 | [], B, s, l => .inl rfl
 | y :: bs, B, s, l => by
  simp only [bO]
  rcases lN bs (B + 1) (cF B 0 y.cells (s.upd (.bx B) (.bx y.t y.cells.length))) l with h | ⟨j, b, h1, h2, h3⟩ | ⟨j, b, i, x, h1, h2, h3, h4⟩
  ·rw [h, cR]
   cases l with
   | bx n =>
    simp only
    by_cases e : n = B
    ·subst e; exact .inr (.inl ⟨0, y, by simp, by simp, by simp⟩)
    ·exact .inl (aP _ _ (by simp; exact fun h => e h.symm))
   | bc n i =>
    simp only
    split
    ·rename_i hh
     obtain ⟨rfl, _, hlt⟩ := hh
     refine .inr (.inr ⟨0, y, i, y.cells.getD (i - 0) .dead, by simp, ?_, by simp, rfl⟩)
     simp [List.getD_eq_getElem?_getD, List.getElem?_eq_getElem (show i < y.cells.length by omega)]
    ·exact .inl (aP _ _ (by simp))
   | tm n => exact .inl (aP _ _ (by simp))
   | rw n => exact .inl (aP _ _ (by simp))
   | it n => exact .inl (aP _ _ (by simp))
  ·exact .inr (.inl ⟨j + 1, b, by simpa using h1, by rw [h2]; congr 1; omega, h3⟩)
  ·exact .inr (.inr ⟨j + 1, b, i, x, by simpa using h1, h2, by rw [h3]; congr 1; omega, h4⟩)
theorem adn {n : Nat} : ∀ (bs : List Bx) (B : Nat) (s : Sto), n < B → bO B bs s (.bx n) = s (.bx n)
 | [], B, s, h => rfl
 | y :: bs, B, s, h => by
  simp only [bO]
  rw [adn bs (B + 1) _ (by omega), cZ _ _ _ _ (by simp), aP _ _ (by simp; omega)]
theorem oX : ∀ (bs : List Bx) (B : Nat) (s : Sto) {j : Nat} {b : Bx}, bs[j]? = some b → bO B bs s (.bx (B + j)) = .bx b.t b.cells.length
 | [], B, s, j, b, h => by simp at h
 | y :: bs, B, s, 0, b, h => by
  obtain rfl : y = b := by simpa using h
  simp only [bO, Nat.add_zero]
  rw [adn _ _ _ (by omega), cZ _ _ _ _ (by simp)]
  simp
 | y :: bs, B, s, j + 1, b, h => by
  simp only [bO]
  rw [show B + (j + 1) = B + 1 + j by omega]
  exact oX bs (B + 1) _ (by simpa using h)
theorem ae5 : ∀ (tl : List (Nat × Sh)) (as : List AV) (s : Sto) (l : Loc), kU tl as s l = s l ∨ ∃ (j i : Nat) (sh : Sh) (x : AV), tl[j]? = some (i, sh) ∧ as[j]? = some x ∧ l = .tm i ∧ kU tl as s l = .av x
 | [], as, s, l => .inl (by simp [kU])
 | (i, sh) :: tl, [], s, l => .inl (by simp [kU])
 | (i, sh) :: tl, x :: as, s, l => by
  simp only [kU]
  rcases ae5 tl as (s.upd (.tm i) (.av x)) l with h | ⟨j, i', sh', x', h1, h2, h3, h4⟩
  ·by_cases e : Loc.tm i = l
   ·subst e; rw [h]; exact .inr ⟨0, i, sh, x, by simp, by simp, rfl, by simp⟩
   ·rw [h, aP _ _ e]; exact .inl rfl
  ·exact .inr ⟨j + 1, i', sh', x', by simpa using h1, by simpa using h2, h3, h4⟩
theorem zX (st : Sto) : ∀ (c : List Cn) (s : Sto) (l : Loc), n8 st c s l = s l ∨ ∃ o n, Cn.it o n ∈ c ∧ l = .it n ∧ n8 st c s l = st (.it o)
 | [], s, l => .inl rfl
 | x :: c, s, l => by
  cases x <;> simp only [n8] <;>
   first
    | (rcases zX st c s l with h | ⟨o, n, h1, h2, h3⟩; exact .inl h; exact .inr ⟨o, n, by simp [h1], h2, h3⟩)
    | skip
  rename_i o n
  rcases zX st c (s.upd (.it n) (st (.it o))) l with h | ⟨o', n', h1, h2, h3⟩
  ·by_cases e : Loc.it n = l
   ·subst e; rw [h]; exact .inr ⟨o, n, by simp, rfl, by simp⟩
   ·rw [h, aP _ _ e]; exact .inl rfl
  ·exact .inr ⟨o', n', by simp [h1], h2, h3⟩
theorem wC (st : Sto) {l : Loc} : ∀ (c : List Cn) (s : Sto), (∀ x ∈ c, m9 st x) → (s l ≠ .none ∨ ∃ o n, Cn.it o n ∈ c ∧ l = .it n) → n8 st c s l ≠ .none
 | [], s, _, h => by
  rcases h with h | ⟨o, n, h, _⟩
  ·exact h
  ·simp at h
 | x :: c, s, ho, h => by
  have ho' : ∀ x ∈ c, m9 st x := fun y hy => ho y (by simp [hy])
  cases x <;> simp only [n8] <;> refine wC st c _ ho' ?_ <;> first | (simpa using h) | skip
  rename_i o n
  obtain ⟨s', p, hit⟩ := ho (.it o n) (by simp)
  rcases h with h | ⟨o', n', h, rfl⟩
  ·by_cases e : Loc.it n = l
   ·subst e; exact .inl (by simp [hit])
   ·exact .inl (by rw [aP _ _ e]; exact h)
  ·rcases List.mem_cons.1 h with h | h
   ·injection h with e1 e2; subst e1; subst e2; exact .inl (by simp [hit])
   ·exact .inr ⟨o', n', h, rfl⟩
theorem wO (st : Sto) : ∀ (c : List Cn) (s : Sto) (l : Loc), jS st c s l = s l ∨ (∃ o n, Cn.rw o n ∈ c ∧ l = .rw n ∧ jS st c s l = st (.rw o)) ∨ (∃ n ks e b, Cn.nilr n ks e b ∈ c ∧ l = .rw n ∧ jS st c s l = .row ks e b [] false)
 | [], s, l => .inl rfl
 | x :: c, s, l => by
  have up : ∀ s', (jS st c s' l = s' l ∨ (∃ o n, Cn.rw o n ∈ c ∧ l = .rw n ∧ jS st c s' l = st (.rw o)) ∨ (∃ n ks e b, Cn.nilr n ks e b ∈ c ∧ l = .rw n ∧ jS st c s' l = .row ks e b [] false)) →
    jS st c s' l = s' l ∨ (∃ o n, Cn.rw o n ∈ x :: c ∧ l = .rw n ∧ jS st c s' l = st (.rw o)) ∨ (∃ n ks e b, Cn.nilr n ks e b ∈ x :: c ∧ l = .rw n ∧ jS st c s' l = .row ks e b [] false) := by
   intro s' h
   rcases h with h | ⟨o, n, h1, h2, h3⟩ | ⟨n, ks, e, b, h1, h2, h3⟩
   ·exact .inl h
   ·exact .inr (.inl ⟨o, n, by simp [h1], h2, h3⟩)
   ·exact .inr (.inr ⟨n, ks, e, b, by simp [h1], h2, h3⟩)
  cases x <;> simp only [jS] <;> first | exact up s (wO st c s l) | skip
  ·rename_i o n
   rcases up _ (wO st c (s.upd (.rw n) (st (.rw o))) l) with h | h
   ·by_cases e : Loc.rw n = l
    ·subst e; rw [h]; exact .inr (.inl ⟨o, n, by simp, rfl, by simp⟩)
    ·rw [h, aP _ _ e]; exact .inl rfl
   ·exact .inr h
  ·rename_i n ks e b
   rcases up _ (wO st c (s.upd (.rw n) (.row ks e b [] false)) l) with h | h
   ·by_cases e' : Loc.rw n = l
    ·subst e'; rw [h]; exact .inr (.inr ⟨n, ks, e, b, by simp, rfl, by simp⟩)
    ·rw [h, aP _ _ e']; exact .inl rfl
   ·exact .inr h
theorem abT (st : Sto) {l : Loc} : ∀ (c : List Cn) (s : Sto), (∀ x ∈ c, m9 st x) → (s l ≠ .none ∨ (∃ o n, Cn.rw o n ∈ c ∧ l = .rw n) ∨ ∃ n ks e b, Cn.nilr n ks e b ∈ c ∧ l = .rw n) → jS st c s l ≠ .none
 | [], s, _, h => by
  rcases h with h | ⟨o, n, h, _⟩ | ⟨n, ks, e, b, h, _⟩
  ·exact h
  ·simp at h
  ·simp at h
 | x :: c, s, ho, h => by
  have ho' : ∀ x ∈ c, m9 st x := fun y hy => ho y (by simp [hy])
  cases x <;> simp only [jS] <;> refine abT st c _ ho' ?_ <;> first | (simpa using h) | skip
  ·rename_i o n
   obtain ⟨ks, e, b, xs, hrow⟩ := ho (.rw o n) (by simp)
   by_cases e' : Loc.rw n = l
   ·subst e'; exact .inl (by simp [hrow])
   ·rw [aP _ _ e']
    rcases h with h | ⟨o', n', h, rfl⟩ | ⟨n', ks', e2, b', h, rfl⟩
    ·exact .inl h
    ·rcases List.mem_cons.1 h with h | h
     ·injection h with e1 e2; subst e2; exact absurd rfl e'
     ·exact .inr (.inl ⟨o', n', h, rfl⟩)
    ·rcases List.mem_cons.1 h with h | h
     ·cases h
     ·exact .inr (.inr ⟨n', ks', e2, b', h, rfl⟩)
  ·rename_i n ks e b
   by_cases e' : Loc.rw n = l
   ·subst e'; exact .inl (by simp)
   ·rw [aP _ _ e']
    rcases h with h | ⟨o', n', h, rfl⟩ | ⟨n', ks', e2, b', h, rfl⟩
    ·exact .inl h
    ·rcases List.mem_cons.1 h with h | h
     ·cases h
     ·exact .inr (.inl ⟨o', n', h, rfl⟩)
    ·rcases List.mem_cons.1 h with h | h
     ·injection h with e1; subst e1; exact absurd rfl e'
     ·exact .inr (.inr ⟨n', ks', e2, b', h, rfl⟩)
theorem abC {base nb nl nr : Nat} {f : Bool} {x : Cn} {c : List Cn} (h : kD base nb nl nr f (x :: c) = true) : kD base nb nl nr f c = true := by
 cases x <;> simp only [kD, Bool.and_eq_true] at h <;> first | exact h | exact h.2
theorem acs {base nb nl nr : Nat} {f : Bool} {o n : Nat} : ∀ {c : List Cn}, kD base nb nl nr f c = true → Cn.bx o n ∈ c → (base ≤ n ∧ n < base + nb) ∨ (2000000000 ≤ n ∧ n < 2000000000 + nl)
 | [], _, h => by simp at h
 | x :: c, h, hm => by
  have tl := abC h
  rcases List.mem_cons.1 hm with rfl | hm'
  ·simp only [kD, Bool.and_eq_true, Bool.or_eq_true] at h
   exact h.1.imp (fun h => ⟨Nat.le_of_ble_eq_true h.1, Nat.le_of_ble_eq_true h.2⟩) (fun h => ⟨Nat.le_of_ble_eq_true h.1, Nat.le_of_ble_eq_true h.2⟩)
  ·exact acs tl hm'
theorem zG {base nb nl nr : Nat} {n : Nat} : ∀ {c : List Cn}, kD base nb nl nr false c = true → ((∃ o, Cn.rw o n ∈ c) ∨ ∃ ks e b, Cn.nilr n ks e b ∈ c) → n < nr
 | [], _, h => by simp at h
 | x :: c, h, hm => by
  have tl := abC h
  rcases hm with ⟨o, hm⟩ | ⟨ks, e, b, hm⟩ <;> rcases List.mem_cons.1 hm with rfl | hm'
  ·simp only [kD, Bool.and_eq_true, Bool.false_or] at h
   exact Nat.le_of_ble_eq_true h.1
  ·exact zG tl (.inl ⟨o, hm'⟩)
  ·simp only [kD, Bool.and_eq_true, Bool.false_or] at h
   exact Nat.le_of_ble_eq_true h.1
  ·exact zG tl (.inr ⟨ks, e, b, hm'⟩)
theorem agl {base nb nl nr : Nat} {o n : Nat} : ∀ {c : List Cn}, kD base nb nl nr false c = true → Cn.it o n ∈ c → False
 | [], _, h => by simp at h
 | x :: c, h, hm => by
  have tl := abC h
  rcases List.mem_cons.1 hm with rfl | hm'
  ·simp [kD] at h
  ·exact agl tl hm'
theorem agC {x : Cn} : ∀ {n k : Nat}, x ∈ rM k n → ∃ j, k ≤ j ∧ j < k + n ∧ x = .bx (2000000000 + j) (2000000000 + j)
 | 0, k, h => by simp [rM] at h
 | n + 1, k, h => by
  simp only [rM, List.mem_cons] at h
  rcases h with rfl | h
  ·exact ⟨k, by omega, by omega, rfl⟩
  ·obtain ⟨j, h1, h2, h3⟩ := agC h; exact ⟨j, by omega, by omega, h3⟩
theorem aeL : ∀ (n k : Nat), nils (rM k n) = []
 | 0, k => rfl
 | n + 1, k => by simp [rM, nils, aeL n (k + 1)]
theorem afV {o n : Nat} : ∀ {c : List Cn}, afC c = true → Cn.it o n ∈ c → False
 | [], _, h => by simp at h
 | x :: c, h, hm => by
  have tl : x ≠ Cn.it o n ∧ afC c = true := by cases x <;> simp [afC] at h ⊢ <;> exact h
  rcases List.mem_cons.1 hm with h' | hm'
  ·exact tl.1 h'.symm
  ·exact afV tl.2 hm'
theorem abV {k o : Nat} : ∀ {c : List Cn}, acI k c = some o → Cn.bx o k ∈ c
 | [], h => by simp [acI] at h
 | x :: c, h => by
  cases x <;> simp only [acI] at h <;> first | (exact List.mem_cons_of_mem _ (abV h)) | skip
  rename_i o' n
  cases hb : Nat.beq n k with
  | true =>
   rw [hb] at h
   simp only [cond_true, Option.some.injEq] at h
   subst h
   rw [Nat.eq_of_beq_eq_true hb]; simp
  | false =>
   rw [hb] at h
   exact List.mem_cons_of_mem _ (abV h)
section
variable {P : Program} {E : Env} {Γ : Fun} {X : Ctx} {G : Gh} {st : Sto} {a : Act} {w : World}
theorem wD {b : Nat} : ∀ {n o : Nat} {l : List AV}, sB st b o n = some l → l.length = n ∧ ∀ i x, l[i]? = some x → st (.bc b (o + i)) = .av x
 | 0, o, l, h => by
  cases (show some ([] : List AV) = some l by simpa [sB] using h)
  exact ⟨rfl, by simp⟩
 | n + 1, o, l, h => by
  simp only [sB] at h
  split at h
  ·rename_i x hx
   split at h
   ·rename_i l' hl'
    simp only [Option.some.injEq] at h
    subst h
    obtain ⟨h1, h2⟩ := wD hl'
    refine ⟨by simp [h1], fun i y hy => ?_⟩
    cases i with
    | zero => simp at hy; subst hy; exact hx
    | succ i => have := h2 i y (by simpa using hy); rw [← this]; congr 2; omega
   ·cases h
  ·cases h
theorem AVRs.afl (R : Rel X G st a w) {b o : Nat} {l : List AV} (h : ∀ i x, l[i]? = some x → st (.bc b (o + i)) = .av x) : l.all AV.one = true := by
 rw [List.all_eq_true]
 intro x hx
 obtain ⟨i, hi, rfl⟩ := List.getElem_of_mem hx
 obtain ⟨_, _, _, _, _, _, _, _, h5⟩ := R.bc _ _ _ (h i _ (List.getElem?_eq_getElem hi))
 exact h5
theorem pC (R : Rel X G st a w) {cs : List Cn} {base : Nat} : ∀ (bl : List (TypeId × List Sh)) (k : Nat) {bs : List Bx} {c : List Cn}, p8 st cs base k bl = some (bs, c) →
  ∃ N, N.map (·.1) = nils c ∧ (∀ p ∈ N, ∃ b, p.2 = Value.slice b 0 0) ∧ (∀ x ∈ c, m9 st x) ∧ bs.length = bl.length ∧ sJ bl bs = bs ∧
   ∀ (j : Nat) (b : Bx), bs[j]? = some b → ∃ (o : Nat) (arr : Array Value), Cn.bx o (base + k + j) ∈ cs ∧ st (.bx o) = .bx b.t b.cells.length ∧ w.heap[G.bb o]? = some (.cells arr b.t (0, 0)) ∧ arr.size = b.cells.length ∧ (b.cells.all AV.one = true) ∧
    (∀ l ∈ AV.refsL b.cells, ∃ x ∈ c, newLoc x = some l) ∧ ∀ G', Sat G G' c N → ∀ (i : Nat) (x : AV), b.cells[i]? = some x → ∃ u, arr[i]? = some u ∧ AVR G' w x u
 | [], k, bs, c, h => by
  simp only [p8, Option.some.injEq, Prod.mk.injEq] at h
  obtain ⟨rfl, rfl⟩ := h
  exact ⟨[], rfl, by simp, by simp, rfl, rfl, by simp⟩
 | (t, ss) :: bl, k, bs, c, h => by
  simp only [p8] at h
  split at h
  ·cases h
  ·rename_i o ho
   split at h
   ·rename_i t' n hst
    split at h
    ·rename_i htt
     have := Nat.eq_of_beq_eq_true htt; subst this
     split at h
     ·rename_i l hl
      split at h
      ·rename_i l' c1 hcv
       split at h
       ·rename_i bs' c2 hbs
        simp only [Option.some.injEq, Prod.mk.injEq] at h
        obtain ⟨rfl, rfl⟩ := h
        obtain ⟨hll, hlv⟩ := wD hl
        obtain ⟨vs, hvs, hcell⟩ := uU R (b := o) (off := 0) (cs := l) hlv
        obtain ⟨⟨N1, r1⟩, r2, r3, r4⟩ := mX R ss hcv hvs
        obtain ⟨N2, p1, p2, p3, p4, p5, p6⟩ := pC R bl (k + 1) hbs
        obtain ⟨arr, harr, hsz⟩ := R.bx o t n hst
        have hlen : l'.length = n := by
         have h1 := (r1.val (G.cut c1 N1 fun _ => 0))
         have hlc : ∀ (ss : List Sh) (l l' : List AV) (c : List Cn), pH st ss l = some (l', c) → l'.length = l.length := by
          intro ss
          induction ss with
          | nil => intro l l' c h; cases l <;> simp [pH] at h; simp [h.1]
          | cons s ss ih =>
           intro l l' c h
           cases l with
           | nil => simp [pH] at h
           | cons y l =>
            simp only [pH] at h
            split at h
            ·split at h
             ·rename_i hh
              simp only [Option.some.injEq, Prod.mk.injEq] at h
              rw [← h.1]; simp [ih _ _ _ hh]
             ·cases h
            ·cases h
         rw [hlc _ _ _ _ hcv, hll]
        refine ⟨N1 ++ N2, by simp [oZ, r1.names, p1], fun p hp => ?_, fun x hx => ?_, by simp [p4], by simp [sJ, r3, p5], fun j b hj => ?_⟩
        ·rcases List.mem_append.1 hp with hp | hp
         ·exact r1.empty p hp
         ·exact p2 p hp
        ·rcases List.mem_append.1 hx with hx | hx
         ·exact r2 x hx
         ·exact p3 x hx
        ·cases j with
         | zero =>
          obtain rfl : ⟨t, l'⟩ = b := by simpa using hj
          refine ⟨o, arr, abV ho, by simpa [hlen] using hst, harr, by simp [hsz, hlen], r4 (AVRs.afl R hlv), fun l0 hl0 => ?_, fun G' hs i x hx => ?_⟩
          ·obtain ⟨x, hx, hn⟩ := r1.refs l0 hl0; exact ⟨x, by simp [hx], hn⟩
          ·obtain ⟨u, hu, hau⟩ := (r1.val G' hs.left).get hx
           refine ⟨u, ?_, hau⟩
           have := hcell i u hu
           rw [cell_of_row w _ _ arr t (0, 0) harr] at this
           simpa using this
         | succ j =>
          obtain ⟨o', arr', q1, q2, q3, q4, q5, q6, q7⟩ := p6 j b (by simpa using hj)
          refine ⟨o', arr', by rw [show base + k + (j + 1) = base + (k + 1) + j by omega]; exact q1, q2, q3, q4, q5, fun l0 hl0 => ?_, fun G' hs => q7 G' hs.right⟩
          obtain ⟨x, hx, hn⟩ := q6 l0 hl0; exact ⟨x, by simp [hx], hn⟩
       ·cases h
      ·cases h
     ·cases h
    ·cases h
   ·cases h
theorem ahM (R : Rel X G st a w) : ∀ {tl : List (Nat × Sh)} {as : List AV}, acq st tl = some as → AVRs G w as (tl.map fun p => a.tmps.getD p.1 undef) ∧ ∀ p ∈ tl, p.1 < X.nt
 | [], as, h => by
  cases (show some ([] : List AV) = some as by simpa [acq] using h)
  exact ⟨.nil, by simp⟩
 | (t, sh) :: tl, as, h => by
  simp only [acq] at h
  split at h
  ·rename_i x hx
   split at h
   ·rename_i l hl
    simp only [Option.some.injEq] at h
    subst h
    obtain ⟨h1, h2⟩ := R.tm t x hx
    obtain ⟨h3, h4⟩ := ahM R hl
    refine ⟨.cons _ _ _ _ h2 h3, fun p hp => ?_⟩
    rcases List.mem_cons.1 hp with rfl | hp
    ·exact h1
    ·exact h4 p hp
   ·cases h
  ·cases h
theorem adv : afQ P E := by
 intro h st st' hcan X G a w hF R
 unfold canon at hcan
 split at hcan
 ·cases hcan
 rename_i as has
 split at hcan
 ·cases hcan
 rename_i as' c1 hcv
 split at hcan
 ·cases hcan
 rename_i bs c2 hbx
 split at hcan
 ·cases hcan
 rename_i ls c3 hlx
 split at hcan
 ·rename_i hcond
  generalize hc0 : rM 0 h.lent.length = c0 at *
  have hself : ∀ x ∈ c0, ∃ j, x = .bx (2000000000 + j) (2000000000 + j) := fun x hx => by
   rw [← hc0] at hx; obtain ⟨j, _, _, e⟩ := agC hx; exact ⟨j, e⟩
  have hn0 : nils c0 = [] := by rw [← hc0]; exact aeL _ _
  simp only [Bool.and_eq_true] at hcond
  obtain ⟨⟨⟨⟨hno, hno3⟩, hok⟩, hin⟩, hsm⟩ := hcond
  have hsm' := Nat.le_of_ble_eq_true hsm
  obtain ⟨hA, hlt⟩ := ahM R has
  obtain ⟨⟨N1, r1⟩, r2, r3, r4⟩ := mX R _ hcv hA
  obtain ⟨N2, p1, p2, p3, p4, p5, p6⟩ := pC R h.boxes 0 hbx
  obtain ⟨N3, t1, t2, t3, t4, t5, t6⟩ := pC R h.lent 0 hlx
  simp only [Option.some.injEq] at hcan
  have hold : ∀ x ∈ c0 ++ c1 ++ c2 ++ c3, m9 st x := fun x hx => by
   simp only [List.mem_append] at hx
   rcases hx with ((hx | hx) | hx) | hx
   ·obtain ⟨j, rfl⟩ := hself x hx; trivial
   ·exact r2 x hx
   ·exact p3 x hx
   ·exact t3 x hx
  have hN : (((([] : List (Nat × Value)) ++ N1) ++ N2) ++ N3).map (·.1) = nils (c0 ++ c1 ++ c2 ++ c3) := by simp [oZ, r1.names, p1, t1, hn0]
  have sat := Gh.acV G (fun n => iJ (st' (.rw n))) hok hN
  generalize hBF : (fun (n : Nat) (b : Bx) => (∃ j : Nat, bs[j]? = some b ∧ n = 1000000000 + j) ∨ (∃ j : Nat, ls[j]? = some b ∧ n = 2000000000 + j)) = BF
  have bfi : ∀ n b, BF n b ↔ ((∃ j : Nat, bs[j]? = some b ∧ n = 1000000000 + j) ∨ (∃ j : Nat, ls[j]? = some b ∧ n = 2000000000 + j)) := by intro n b; subst hBF; exact Iff.rfl
  have bflt : ∀ {j : Nat} {b : Bx}, bs[j]? = some b → j < 1000000 + 1 := fun {j b} hj => by
   have := (List.getElem?_eq_some_iff.1 hj).1; omega
  have bfu : ∀ n b b', BF n b → BF n b' → b = b' := by
   intro n b b' h1 h2
   rcases (bfi n b).1 h1 with ⟨j, hj, rfl⟩ | ⟨j, hj, rfl⟩ <;> rcases (bfi _ b').1 h2 with ⟨j', hj', e⟩ | ⟨j', hj', e⟩
   ·obtain rfl : j = j' := by omega
    rw [hj] at hj'; exact Option.some.inj hj'
   ·have := bflt hj; omega
   ·have := bflt hj'; omega
   ·obtain rfl : j = j' := by omega
    rw [hj] at hj'; exact Option.some.inj hj'
  have bff : ∀ n b, BF n b → ∃ o arr, Cn.bx o n ∈ c0 ++ c1 ++ c2 ++ c3 ∧ st (.bx o) = .bx b.t b.cells.length ∧ w.heap[G.bb o]? = some (.cells arr b.t (0, 0)) ∧ (b.cells.all AV.one = true) ∧
    (∀ l ∈ AV.refsL b.cells, ∃ x ∈ c0 ++ c1 ++ c2 ++ c3, newLoc x = some l) ∧ (2000000000 ≤ n → o = n) ∧
    ∀ (i : Nat) (x : AV), b.cells[i]? = some x → ∃ u, arr[i]? = some u ∧ AVR (G.cut (c0 ++ c1 ++ c2 ++ c3) (((([] : List (Nat × Value)) ++ N1) ++ N2) ++ N3) fun n => iJ (st' (.rw n))) w x u := by
   intro n b hb
   rcases (bfi n b).1 hb with ⟨j, hj, rfl⟩ | ⟨j, hj, rfl⟩
   ·obtain ⟨o, arr, s1, s2, s3, s4, s5, s6, s7⟩ := p6 j b hj
    rw [Nat.add_zero] at s1
    exact ⟨o, arr, List.mem_append_left _ (List.mem_append_left _ s1), s2, s3, s5, fun l hl => by obtain ⟨x, hx, e⟩ := s6 l hl; exact ⟨x, by simp [hx], e⟩, fun hge => by have := bflt hj; omega, s7 _ sat.left.right⟩
   ·obtain ⟨o, arr, s1, s2, s3, s4, s5, s6, s7⟩ := t6 j b hj
    rw [Nat.add_zero] at s1
    refine ⟨o, arr, by simp [s1], s2, s3, s5, fun l hl => by obtain ⟨x, hx, e⟩ := s6 l hl; exact ⟨x, by simp [hx], e⟩, fun _ => ?_, s7 _ sat.right⟩
    obtain ⟨j', e⟩ := hself _ s1
    injection e with e1 e2; omega
  have look : ∀ l, (st' l = .none) ∨ (∃ o n, Cn.rw o n ∈ c0 ++ c1 ++ c2 ++ c3 ∧ l = .rw n ∧ st' l = st (.rw o)) ∨ (∃ n ks e b, Cn.nilr n ks e b ∈ c0 ++ c1 ++ c2 ++ c3 ∧ l = .rw n ∧ st' l = .row ks e b [] false) ∨
    (∃ o n, Cn.it o n ∈ c1 ∧ l = .it n ∧ st' l = st (.it o)) ∨ (∃ (n : Nat) (b : Bx), BF n b ∧ l = .bx n ∧ st' l = .bx b.t b.cells.length) ∨
    (∃ (n : Nat) (b : Bx) (i : Nat) (x : AV), BF n b ∧ b.cells[i]? = some x ∧ l = .bc n i ∧ st' l = .av x) ∨ (∃ (j i : Nat) (sh : Sh) (x : AV), h.tmps[j]? = some (i, sh) ∧ as'[j]? = some x ∧ l = .tm i ∧ st' l = .av x) := by
   intro l
   rw [← hcan]
   rcases wO st (c0 ++ c1 ++ c2 ++ c3) (n8 st c1 (bO 2000000000 ls (bO 1000000000 bs (kU h.tmps as' Sto.nil)))) l with h1 | h1 | h1
   ·rcases zX st c1 (bO 2000000000 ls (bO 1000000000 bs (kU h.tmps as' Sto.nil))) l with h2 | h2
    ·rcases lN ls 2000000000 (bO 1000000000 bs (kU h.tmps as' Sto.nil)) l with h5 | h5 | h5
     ·rcases lN bs 1000000000 (kU h.tmps as' Sto.nil) l with h3 | h3 | h3
      ·rcases ae5 h.tmps as' Sto.nil l with h4 | ⟨j, i, sh, x, q1, q2, q3, q4⟩
       ·exact .inl (by rw [h1, h2, h5, h3, h4]; rfl)
       ·exact .inr (.inr (.inr (.inr (.inr (.inr ⟨j, i, sh, x, q1, q2, q3, by rw [h1, h2, h5, h3, q4]⟩)))))
      ·obtain ⟨j, b, q1, q2, q3⟩ := h3
       exact .inr (.inr (.inr (.inr (.inl ⟨_, b, (bfi _ _).2 (.inl ⟨j, q1, rfl⟩), q2, by rw [h1, h2, h5, q3]⟩))))
      ·obtain ⟨j, b, i, x, q1, q2, q3, q4⟩ := h3
       exact .inr (.inr (.inr (.inr (.inr (.inl ⟨_, b, i, x, (bfi _ _).2 (.inl ⟨j, q1, rfl⟩), q2, q3, by rw [h1, h2, h5, q4]⟩)))))
     ·obtain ⟨j, b, q1, q2, q3⟩ := h5
      exact .inr (.inr (.inr (.inr (.inl ⟨_, b, (bfi _ _).2 (.inr ⟨j, q1, rfl⟩), q2, by rw [h1, h2, q3]⟩))))
     ·obtain ⟨j, b, i, x, q1, q2, q3, q4⟩ := h5
      exact .inr (.inr (.inr (.inr (.inr (.inl ⟨_, b, i, x, (bfi _ _).2 (.inr ⟨j, q1, rfl⟩), q2, q3, by rw [h1, h2, q4]⟩)))))
    ·obtain ⟨o, n, q1, q2, q3⟩ := h2
     exact .inr (.inr (.inr (.inl ⟨o, n, q1, q2, by rw [h1, q3]⟩)))
   ·exact .inr (.inl h1)
   ·exact .inr (.inr (.inl h1))
  have there : ∀ l x, x ∈ c0 ++ c1 ++ c2 ++ c3 → newLoc x = some l → st' l ≠ .none := by
   intro l x hx hn
   rw [← hcan]
   refine abT st _ _ hold ?_
   cases x with
   | bx o n =>
    simp only [newLoc, Option.some.injEq] at hn
    subst hn
    refine .inl (wC st _ _ r2 (.inl ?_))
    rcases acs hin hx with ⟨h1, h2⟩ | ⟨h1, h2⟩
    ·have hj : n - 1000000000 < bs.length := by omega
     have := oX bs 1000000000 (kU h.tmps as' Sto.nil) (List.getElem?_eq_getElem hj)
     rw [show 1000000000 + (n - 1000000000) = n by omega] at this
     rcases lN ls 2000000000 (bO 1000000000 bs (kU h.tmps as' Sto.nil)) (.bx n) with h5 | ⟨_, _, _, _, h5⟩ | ⟨_, _, _, _, _, _, q, _⟩
     ·rw [h5, this]; simp
     ·rw [h5]; simp
     ·cases q
    ·have hj : n - 2000000000 < ls.length := by omega
     have := oX ls 2000000000 (bO 1000000000 bs (kU h.tmps as' Sto.nil)) (List.getElem?_eq_getElem hj)
     rw [show 2000000000 + (n - 2000000000) = n by omega] at this
     rw [this]; simp
   | rw o n =>
    simp only [newLoc, Option.some.injEq] at hn
    exact .inr (.inl ⟨o, n, hx, hn.symm⟩)
   | nilr n ks e b =>
    simp only [newLoc, Option.some.injEq] at hn
    exact .inr (.inr ⟨n, ks, e, b, hx, hn.symm⟩)
   | it o n =>
    simp only [newLoc, Option.some.injEq] at hn
    refine .inl (wC st _ _ r2 (.inr ⟨o, n, ?_, hn.symm⟩))
    simp only [List.mem_append] at hx
    rcases hx with ((hx | hx) | hx) | hx
    ·obtain ⟨j, e⟩ := hself _ hx; cases e
    ·exact hx
    ·exact (afV hno hx).elim
    ·exact (afV hno3 hx).elim
   | fz o => simp [newLoc] at hn
  refine ⟨_, afM (m := X.nt) (lb' := X.lb) (S := st') (a' := a) R hok hN (fun p hp => ?_) hold R.defers R.sz ?_ ?_ ?_ ?_ ?_ ?_ ?_⟩
  ·simp only [List.mem_append] at hp
   rcases hp with ((hp | hp) | hp) | hp
   ·cases hp
   ·exact r1.empty p hp
   ·exact p2 p hp
   ·exact t2 p hp
  ·intro i v hv
   rcases look (.tm i) with q | ⟨_, _, _, q, _⟩ | ⟨_, _, _, _, _, q, _⟩ | ⟨_, _, _, q, _⟩ | ⟨_, _, _, q, _⟩ | ⟨_, _, _, _, _, _, q, _⟩ | ⟨j, i', sh, x, q1, q2, q3, q4⟩
   ·rw [q] at hv; cases hv
   ·cases q
   ·cases q
   ·cases q
   ·cases q
   ·cases q
   ·injection q3 with q3; subst q3
    rw [q4] at hv; injection hv with hv; subst hv
    obtain ⟨u, hu, hau⟩ := (r1.val _ sat.left.left.right).get q2
    rw [List.getElem?_map, q1] at hu
    obtain rfl := Option.some.inj hu
    exact ⟨hlt (i, sh) (List.mem_of_getElem? q1), hau⟩
  ·intro n t k hv
   rcases look (.bx n) with q | ⟨_, _, _, q, _⟩ | ⟨_, _, _, _, _, q, _⟩ | ⟨_, _, _, q, _⟩ | ⟨n', b, q1, q2, q3⟩ | ⟨_, _, _, _, _, _, q, _⟩ | ⟨_, _, _, _, _, _, q, _⟩
   ·rw [q] at hv; cases hv
   ·cases q
   ·cases q
   ·cases q
   ·injection q2 with q2; subst q2
    rw [q3] at hv; injection hv with e1 e2; subst e1; subst e2
    obtain ⟨o, arr, s1, s2, _⟩ := bff _ b q1
    exact ⟨o, s1, s2⟩
   ·cases q
   ·cases q
  ·intro n i v hv
   rcases look (.bc n i) with q | ⟨_, _, _, q, _⟩ | ⟨_, _, _, _, _, q, _⟩ | ⟨_, _, _, q, _⟩ | ⟨_, _, _, q, _⟩ | ⟨n', b, i', x, q1, q2, q3, q4⟩ | ⟨_, _, _, _, _, _, q, _⟩
   ·rw [q] at hv; cases hv
   ·cases q
   ·cases q
   ·cases q
   ·cases q
   ·injection q3 with e1 e2; subst e1; subst e2
    rw [q4] at hv; injection hv with hv; subst hv
    obtain ⟨o, arr, s1, s2, s3, s5, s6, _, s7⟩ := bff _ b q1
    obtain ⟨u, hu, hau⟩ := s7 i x q2
    refine ⟨o, b.t, b.cells.length, arr, u, s1, ?_, s3, hu, hau, (List.all_eq_true.1 s5) _ (List.mem_of_getElem? q2)⟩
    rcases look (.bx n) with q | ⟨_, _, _, q, _⟩ | ⟨_, _, _, _, _, q, _⟩ | ⟨_, _, _, q, _⟩ | ⟨n', b', q1', q2', q3'⟩ | ⟨_, _, _, _, _, _, q, _⟩ | ⟨_, _, _, _, _, _, q, _⟩
    ·exact absurd q (there (.bx n) (.bx o n) s1 rfl)
    ·cases q
    ·cases q
    ·cases q
    ·injection q2' with q2'; subst q2'
     rw [bfu _ _ _ q1 q1']; exact q3'
    ·cases q
    ·cases q
   ·cases q
  ·intro n ks e b xs fz hv
   rcases look (.rw n) with q | ⟨o, n', q1, q2, q3⟩ | ⟨n', ks', e', b', q1, q2, q3⟩ | ⟨_, _, _, q, _⟩ | ⟨_, _, _, q, _⟩ | ⟨_, _, _, _, _, _, q, _⟩ | ⟨_, _, _, _, _, _, q, _⟩
   ·rw [q] at hv; cases hv
   ·injection q2 with q2; subst q2
    obtain ⟨ks', e', b', xs', hrow⟩ := hold _ q1
    rw [q3, hrow] at hv
    injection hv with e1 e2 e3 e4 e5
    subst e1; subst e2; subst e3; subst e4
    exact ⟨e5.symm, .inl ⟨o, q1, hrow⟩⟩
   ·injection q2 with q2; subst q2
    rw [q3] at hv
    injection hv with e1 e2 e3 e4 e5
    subst e1; subst e2; subst e3
    exact ⟨e5.symm, .inr ⟨q1, e4.symm⟩⟩
   ·cases q
   ·cases q
   ·cases q
   ·cases q
  ·intro n s p hv
   rcases look (.it n) with q | ⟨_, _, _, q, _⟩ | ⟨_, _, _, _, _, q, _⟩ | ⟨o, n', q1, q2, q3⟩ | ⟨_, _, _, q, _⟩ | ⟨_, _, _, _, _, _, q, _⟩ | ⟨_, _, _, _, _, _, q, _⟩
   ·rw [q] at hv; cases hv
   ·cases q
   ·cases q
   ·injection q2 with q2; subst q2
    exact ⟨o, by simp [q1], by rw [← q3]; exact hv⟩
   ·cases q
   ·cases q
   ·cases q
  ·intro k t n hv
   rcases look (.bx (2000000000 + k)) with q | ⟨_, _, _, q, _⟩ | ⟨_, _, _, _, _, q, _⟩ | ⟨_, _, _, q, _⟩ | ⟨n', b, q1, q2, q3⟩ | ⟨_, _, _, _, _, _, q, _⟩ | ⟨_, _, _, _, _, _, q, _⟩
   ·rw [q] at hv; cases hv
   ·cases q
   ·cases q
   ·cases q
   ·injection q2 with q2; subst q2
    obtain ⟨o, arr, s1, s2, s3, s5, s6, s8, s7⟩ := bff _ b q1
    have := s8 (by omega)
    subst this
    rw [sat.bx _ _ s1]
    exact R.lent k _ _ s2
   ·cases q
   ·cases q
  ·intro l v hv l' hl'
   rcases look l with q | ⟨o, n', q1, q2, q3⟩ | ⟨n', ks', e', b', q1, q2, q3⟩ | ⟨o, n', q1, q2, q3⟩ | ⟨j, b, q1, q2, q3⟩ | ⟨n, b, i', x, q1, q2, q3, q4⟩ | ⟨j, i', sh, x, q1, q2, q3, q4⟩
   ·rw [q] at hv; cases hv
   ·obtain ⟨ks', e', b', xs', hrow⟩ := hold _ q1
    rw [q3, hrow] at hv; cases hv
   ·rw [q3] at hv; cases hv
   ·obtain ⟨s, p, hit⟩ := r2 _ q1
    rw [q3, hit] at hv; cases hv
   ·rw [q3] at hv; cases hv
   ·rw [q4] at hv; injection hv with hv; subst hv
    obtain ⟨o, arr, s1, s2, s3, s5, s6, _, s7⟩ := bff _ b q1
    obtain ⟨y, hy, hn⟩ := s6 l' (kX q2 hl')
    exact there l' y hy hn
   ·rw [q4] at hv; injection hv with hv; subst hv
    obtain ⟨y, hy, hn⟩ := r1.refs l' (kX q2 hl')
    exact there l' y (by simp [hy]) hn
 ·cases hcan
end
end PX
set_option linter.unusedVariables false
set_option linter.unusedSimpArgs false
namespace PX
open Go
def outSto (bs : List Bx) (rs : List Rw) : Sto := jZ 0 rs (bO 0 bs Sto.nil)
def act0 : Act := ⟨#[], []⟩
def entCtx (w : World) (G : Gh) (bs : List Bx) (rs : List Rw) : Ctx :=
 ⟨w, w.heap.size, fun k => ∃ l, blk G (inSto bs rs) l = some k, 0, G.F, fun k => G.bb (2000000000 + k), []⟩
structure Ent (w : World) (G : Gh) (args : List AV) (bs : List Bx) (rs : List Rw) (vs : List Value) : Prop where
 rel : Rel (entCtx w G bs rs) G (inSto bs rs) act0 w
 avs : AVRs G w args vs
 refs : ∀ l ∈ AV.refsL args, inSto bs rs l ≠ .none
def pack : List Value → Value
 | [u] => u
 | l => .tuple ⟨l⟩
structure ajJ (X : Ctx) (w' : World) (res : List AV) (obs : List Bx) (ors : List Rw) (nb : Nat) (us : List Value) (G' : Gh) : Prop where
 rel : Rel { X with nt := 0, lb := fun k => G'.bb (2000000000 + k), df := [] } G' (outSto obs ors) act0 w'
 rvs : AVRs G' w' res us
 refs : ∀ l ∈ AV.refsL res, outSto obs ors l ≠ .none
 boxes : ∀ k, k < nb → G'.bb k = X.lb k
def aic (E : Env) (f : FuncId) (nb : Nat) : Out → Prop
 | .ret res obs ors => ∃ x ss tbs, E.tm f = some x ∧ qX (E.vr f) x res = (ss, tbs) ∧ Sh.coL ss res = res ∧ sJ tbs obs = obs ∧ xX (Sh.vE ss) ors = ors ∧ nb ≤ obs.length ∧ obs.length ≤ 1000000 ∧ (∀ b ∈ obs, AV.refsL b.cells = [])
 | .pan v => ∃ sh, E.pv f = some sh ∧ Sh.co sh v = v ∧ v.refs = []
def xP (E : Env) (f : FuncId) (X : Ctx) (nb : Nat) (out : Out) : Ending → World → Prop
 | .returned v, w' => aic E f nb out ∧ ∃ res obs ors us G', out = .ret res obs ors ∧ v = pack us ∧ ajJ X w' res obs ors nb us G'
 | .panicked chain, w' => aic E f nb out ∧ ∃ v, out = .pan v ∧ anL X v chain w'
 | .outgrown, _ => False
def tW (P : Program) (E : Env) (Γ : Fun) : Prop :=
 ∀ f args bs rs out, Γ f args bs rs = some out → ∀ w G vs, Ent w G args bs rs vs → Calls P f ⟨vs⟩ w (xP E f (entCtx w G bs rs) bs.length out)
def xV (P : Program) (E : Env) : Prop :=
 ∀ f k, E.lib f = some k → ∀ Γ, tW P E Γ → ∀ args bs rs out, yV E Γ f k args bs rs = some out → ∀ w G vs, Ent w G args bs rs vs → Calls P f ⟨vs⟩ w (xP E f (entCtx w G bs rs) bs.length out)
theorem xV.none {P : Program} {E : Env} (h : ∀ f, E.lib f = .none) : xV P E := fun f k hk => by rw [h f] at hk; cases hk
theorem al3 : ∀ {sh : Sh} {v : AV}, qO sh v = true → Sh.co sh v = v ∧ v.refs = [] := by
 intro sh
 induction sh using Sh.rec (motive_2 := fun ss => ∀ vs, aaE ss vs = true → Sh.coL ss vs = vs ∧ AV.refsL vs = []) with
 | ifc t s ih =>
  intro v h
  cases v <;> (try simp only [qO] at h) <;> first | (cases h; done) | skip
  simp only [Bool.and_eq_true] at h
  have := Nat.eq_of_beq_eq_true h.1; subst this
  obtain ⟨h1, h2⟩ := ih h.2
  exact ⟨by simp [Sh.co, h1], by simp [AV.refs, h2]⟩
 | int k =>
  intro v h
  rcases v with x | _ | _ | _ | _ | _ | _ | _ | _ | _ | _ | _ | _ | _ | _ | _ | _ <;> (try simp only [qO] at h) <;> first | (cases h; done) | skip
  cases x <;> (try simp only [qO] at h) <;> first | (cases h; done) | skip
  have := xJ h; subst this
  exact ⟨rfl, rfl⟩
 | bool =>
  intro v h
  rcases v with x | _ | _ | _ | _ | _ | _ | _ | _ | _ | _ | _ | _ | _ | _ | _ | _ <;> (try simp only [qO] at h) <;> first | (cases h; done) | skip
  cases x <;> (try simp only [qO] at h) <;> first | (cases h; done) | exact ⟨rfl, rfl⟩
 | str =>
  intro v h
  rcases v with x | _ | _ | _ | _ | _ | _ | _ | _ | _ | _ | _ | _ | _ | _ | _ | _ <;> (try simp only [qO] at h) <;> first | (cases h; done) | skip
  cases x <;> (try simp only [qO] at h) <;> first | (cases h; done) | exact ⟨rfl, rfl⟩
 | agg ss ih =>
  intro v h
  cases v <;> (try simp only [qO] at h) <;> first | (cases h; done) | skip
  obtain ⟨h1, h2⟩ := ih _ h
  exact ⟨by simp [Sh.co, cellsOf, h1], by simp [AV.refs, h2]⟩
 | nil =>
  rename_i vs h
  cases vs with
  | nil => exact ⟨rfl, rfl⟩
  | cons v l => simp [aaE] at h
 | cons s r ihs ihr =>
  rename_i vs h
  cases vs with
  | nil => simp [aaE] at h
  | cons v l =>
   simp only [aaE, Bool.and_eq_true] at h
   obtain ⟨h1, h2⟩ := ihs h.1
   obtain ⟨h3, h4⟩ := ihr _ h.2
   exact ⟨by simp [Sh.coL, h1, h3], by simp [AV.refsL, h2, h4]⟩
 | _ => intro v h; simp [qO] at h
theorem mO : ∀ (rs : List Rw) (B : Nat) (s : Sto) (l : Loc), jZ B rs s l = s l ∨ ∃ (j : Nat) (r : Rw), rs[j]? = some r ∧ l = .rw (B + j) ∧ jZ B rs s l = .row r.ks r.e r.bytes r.xs false
 | [], B, s, l => .inl rfl
 | x :: rs, B, s, l => by
  simp only [jZ]
  rcases mO rs (B + 1) (s.upd (.rw B) (.row x.ks x.e x.bytes x.xs false)) l with h | ⟨j, r, h1, h2, h3⟩
  ·by_cases e : Loc.rw B = l
   ·subst e; rw [h]; exact .inr ⟨0, x, by simp, by simp, by simp⟩
   ·rw [h, aP _ _ e]; exact .inl rfl
  ·exact .inr ⟨j + 1, r, by simpa using h1, by rw [h2]; congr 1; omega, h3⟩
theorem agh {n : Nat} : ∀ (rs : List Rw) (B : Nat) (s : Sto), n < B → jZ B rs s (.rw n) = s (.rw n)
 | [], B, s, h => rfl
 | y :: rs, B, s, h => by
  simp only [jZ]
  rw [agh rs (B + 1) _ (by omega), aP _ _ (by simp; omega)]
theorem zN : ∀ (rs : List Rw) (B : Nat) (s : Sto) {j : Nat} {r : Rw}, rs[j]? = some r → jZ B rs s (.rw (B + j)) = .row r.ks r.e r.bytes r.xs false
 | [], B, s, j, r, h => by simp at h
 | y :: rs, B, s, 0, r, h => by
  obtain rfl : y = r := by simpa using h
  simp only [jZ, Nat.add_zero]
  rw [agh _ _ _ (by omega)]
  simp
 | y :: rs, B, s, j + 1, r, h => by
  simp only [jZ]
  rw [show B + (j + 1) = B + 1 + j by omega]
  exact zN rs (B + 1) _ (by simpa using h)
theorem agn (st : Sto) (k : Nat) : ∀ (c : List Cn), n9 st k c = .none ∨ (∃ o, Cn.rw o k ∈ c ∧ n9 st k c = st (.rw o)) ∨ (∃ ks e b, Cn.nilr k ks e b ∈ c ∧ n9 st k c = .row ks e b [] false)
 | [] => .inl rfl
 | x :: c => by
  have up : (n9 st k c = .none ∨ (∃ o, Cn.rw o k ∈ c ∧ n9 st k c = st (.rw o)) ∨ (∃ ks e b, Cn.nilr k ks e b ∈ c ∧ n9 st k c = .row ks e b [] false)) →
    (n9 st k c = .none ∨ (∃ o, Cn.rw o k ∈ x :: c ∧ n9 st k c = st (.rw o)) ∨ (∃ ks e b, Cn.nilr k ks e b ∈ x :: c ∧ n9 st k c = .row ks e b [] false)) := by
   intro h
   rcases h with h | ⟨o, h1, h2⟩ | ⟨ks, e, b, h1, h2⟩
   ·exact .inl h
   ·exact .inr (.inl ⟨o, by simp [h1], h2⟩)
   ·exact .inr (.inr ⟨ks, e, b, by simp [h1], h2⟩)
  have ih := agn st k c
  cases x <;> simp only [n9] <;> first | exact up ih | skip
  ·rename_i o n
   cases hb : Nat.beq n k with
   | true => have := Nat.eq_of_beq_eq_true hb; subst this; exact .inr (.inl ⟨o, by simp, rfl⟩)
   | false => exact up ih
  ·rename_i n ks e b
   cases hb : Nat.beq n k with
   | true => have := Nat.eq_of_beq_eq_true hb; subst this; exact .inr (.inr ⟨ks, e, b, by simp, rfl⟩)
   | false => exact up ih
theorem ac8 {st : Sto} {c : List Cn} : ∀ {l : List (List CK × TypeId × Nat)} {k : Nat} {rs : List Rw}, aaq st c k l = some rs →
  rs.length = l.length ∧ xX l rs = rs ∧ ∀ (j : Nat) (r : Rw), rs[j]? = some r → n9 st (k + j) c = .row r.ks r.e r.bytes r.xs false
 | [], k, rs, h => by
  simp only [aaq, Option.some.injEq] at h
  subst h
  exact ⟨rfl, rfl, by simp⟩
 | (ks, e, b) :: l, k, rs, h => by
  simp only [aaq] at h
  split at h
  ·rename_i ks' e' b' xs hrow
   split at h
   ·rename_i hc
    simp only [Bool.and_eq_true] at hc
    have h1 := dY hc.1.1
    have h2 := Nat.eq_of_beq_eq_true hc.1.2
    have h3 := Nat.eq_of_beq_eq_true hc.2
    subst h1; subst h2; subst h3
    split at h
    ·rename_i l' hl'
     simp only [Option.some.injEq] at h
     subst h
     obtain ⟨q1, q2, q3⟩ := ac8 hl'
     refine ⟨by simp [q1], by simp [xX, q2], fun j r hj => ?_⟩
     cases j with
     | zero => simp at hj; subst hj; exact hrow
     | succ j => have := q3 j r (by simpa using hj); rw [← this]; congr 1; omega
    ·cases h
   ·cases h
  ·cases h
theorem abN {x : Cn} : ∀ {n k : Nat}, x ∈ borrowed k n → ∃ j, k ≤ j ∧ j < k + n ∧ x = .bx (2000000000 + j) j
 | 0, k, h => by simp [borrowed] at h
 | n + 1, k, h => by
  simp only [borrowed, List.mem_cons] at h
  rcases h with rfl | h
  ·exact ⟨k, by omega, by omega, rfl⟩
  ·obtain ⟨j, h1, h2, h3⟩ := abN h; exact ⟨j, by omega, by omega, h3⟩
theorem ack : ∀ {n k j : Nat}, k ≤ j → j < k + n → Cn.bx (2000000000 + j) j ∈ borrowed k n
 | 0, k, j, h1, h2 => by omega
 | n + 1, k, j, h1, h2 => by
  simp only [borrowed, List.mem_cons]
  by_cases e : j = k
  ·subst e; exact .inl rfl
  ·exact .inr (ack (by omega) (by omega))
theorem abp : ∀ (n k : Nat), nils (borrowed k n) = []
 | 0, k => rfl
 | n + 1, k => by simp [borrowed, nils, abp n (k + 1)]
section
variable {P : Program} {E : Env} {Γ : Fun} {Λ : Code → Sto → (Ex → Sto → Res) → Res} {X : Ctx} {G : Gh} {st : Sto} {a : Act} {w : World}
def aat (a : Act) : ResultVar → Sem Value
 | .tmp t => pure (a.tmps.getD t undef)
 | .cell b t => do loadVar t (← asAddr (a.tmps.getD b undef))
theorem ad0 (EO : dE P E) (R : Rel X G st a w) : ∀ {l : List ResultVar} {as : List AV}, vP E st l = some as →
  ∃ us, AVRs G w as us ∧ (l.mapM (aat a)).run P w = .ok us w
 | [], as, h => by
  simp only [vP, Option.some.injEq] at h
  subst h
  exact ⟨[], .nil, by simp⟩
 | .tmp t :: l, as, h => by
  simp only [vP] at h
  split at h
  ·rename_i x hx
   split at h
   ·rename_i l' hl'
    simp only [Option.some.injEq] at h
    subst h
    obtain ⟨us, h1, h2⟩ := ad0 EO R hl'
    exact ⟨_ :: us, .cons _ _ _ _ (R.tm t x hx).2 h1, by simp only [List.mapM_cons, aat, Sem.run_bind, Sem.run_pure, Result.andThen_ok, h2]⟩
   ·cases h
  ·cases h
 | .cell b t :: l, as, h => by
  simp only [vP] at h
  split at h
  ·rename_i bb off hx
   split at h
   ·rename_i ti hti
    split at h
    ·rename_i cs hcs
     split at h
     ·rename_i l' hl'
      obtain ⟨us, h1, h2⟩ := ad0 EO R hl'
      have hT := EO.ty t ti hti
      obtain ⟨hl, hv⟩ := wD hcs
      obtain ⟨vs, hvs, hcell⟩ := uU R (b := bb) (off := off) (cs := cs) hv
      have hptr : a.tmps.getD b undef = .pointer (some ⟨G.bb bb, off, none⟩) := by
       have := (R.tm b _ hx).2
       generalize a.tmps.getD b undef = u at this
       cases this; rfl
      have hvl : vs.length = ti.ks.length := by rw [← hl]; exact hvs.length.symm
      have hia := ace (P := P) (w := w) hT
      have hsz := run_sizeOf (P := P) (w := w) hT
      split at h
      ·rename_i hag
       simp only [Option.some.injEq] at h
       subst h
       refine ⟨.agg ⟨vs⟩ :: us, .cons _ _ _ _ (.agg _ _ hvs) h1, ?_⟩
       have hload : (loadCells ⟨G.bb bb, off, none⟩ ti.ks.length).run P w = .ok ⟨vs⟩ w := by
        have := run_firstCells_some (P := P) w 1 ti.ks.length ⟨G.bb bb, off, none⟩ 0 0 vs (by omega) (fun j v hj => by rw [add_lit]; exact hcell j v hj)
        simpa [Builtin.firstCells] using this
       simp only [List.mapM_cons, aat, Sem.run_bind, Sem.run_pure, Result.andThen_ok, hptr, asAddr, loadVar, hia, hag, if_true, hsz, hload, h2]
      ·rename_i hag
       split at h
       ·rename_i x
        simp only [Option.some.injEq] at h
        subst h
        obtain ⟨u, rfl, hxu⟩ := hvs.one
        refine ⟨u :: us, .cons _ _ _ _ hxu h1, ?_⟩
        have hload : (load ⟨G.bb bb, off, none⟩).run P w = .ok u w := by
         have := hcell 0 u (by simp)
         rw [Nat.add_zero] at this
         simp [run_load, this]
        simp only [Bool.not_eq_true] at hag
        simp only [List.mapM_cons, aat, Sem.run_bind, Sem.run_pure, Result.andThen_ok, hptr, asAddr, loadVar, hia, hag, if_false, Bool.false_eq_true, hload, h2]
       ·cases h
     ·cases h
    ·cases h
   ·cases h
  ·cases h
theorem aiF {fn : Func} {us : List Value} (h : (fn.results.toList.mapM (aat a)).run P w = .ok us w) : (results fn a.tmps).run P w = .ok (pack us) w := by
 have e : results fn a.tmps = (do let vs ← fn.results.mapM (aat a); pure (if h : vs.size = 1 then vs[0] else .tuple vs)) := by
  unfold results
  congr 1
 rw [e, Array.mapM_eq_mapM_toList]
 simp only [map_eq_pure_bind, Sem.run_bind, h, Result.andThen_ok, Sem.run_pure]
 congr 1
 rcases us with _ | ⟨u, _ | ⟨v, us⟩⟩ <;> simp [pack]
theorem rL (EO : dE P E) (R : Rel X G st a w) {f : FuncId} {fn : Func} {x : List Sh × List (TypeId × List Sh)} {ss : List Sh} {tbs : List (TypeId × List Sh)} {nb : Nat} {out : Out} (htm : E.tm f = some x) (hsh : ∀ res obs ors, out = .ret res obs ors → qX (E.vr f) x res = (ss, tbs)) (h : aan E fn ss tbs nb st = some out) :
  aic E f nb out ∧ ∃ res obs ors us G', out = .ret res obs ors ∧ (results fn a.tmps).run P w = .ok (pack us) w ∧ ajJ X w res obs ors nb us G' := by
 unfold aan at h
 split at h
 ·cases h
 rename_i as has
 split at h
 ·cases h
 rename_i as' c1 hcv
 split at h
 ·cases h
 rename_i bs c2 hbx
 split at h
 ·rename_i hcond
  split at h
  ·rename_i rs hrs
   generalize hc0 : borrowed 0 nb = c0 at *
   have hbor : ∀ x ∈ c0, ∃ j, x = .bx (2000000000 + j) j := fun x hx => by
    rw [← hc0] at hx; obtain ⟨j, _, _, e⟩ := abN hx; exact ⟨j, e⟩
   have hn0 : nils c0 = [] := by rw [← hc0]; exact abp _ _
   simp only [Bool.and_eq_true] at hcond
   obtain ⟨⟨⟨⟨⟨hno, hok⟩, hnb⟩, hsm⟩, hin⟩, hflat⟩ := hcond
   have hnb' := Nat.le_of_ble_eq_true hnb
   have hsm' := Nat.le_of_ble_eq_true hsm
   obtain ⟨us, hA, hres⟩ := ad0 EO R has
   obtain ⟨⟨N1, r1⟩, r2, r3, r4⟩ := mX R _ hcv hA
   obtain ⟨N2, p1, p2, p3, p4, p5, p6⟩ := pC R tbs 0 hbx
   obtain ⟨o1, o2, o3⟩ := ac8 hrs
   have hcells : ∀ b ∈ bs, AV.refsL b.cells = [] := fun b hb => by
    have := (List.all_eq_true.1 hflat) b hb
    simpa using this
   simp only [Option.some.injEq] at h
   subst h
   have hold : ∀ x ∈ c0 ++ c1 ++ c2, m9 st x := fun x hx => by
    simp only [List.mem_append] at hx
    rcases hx with (hx | hx) | hx
    ·obtain ⟨j, rfl⟩ := hbor x hx; trivial
    ·exact r2 x hx
    ·exact p3 x hx
   have hN : ((([] : List (Nat × Value)) ++ N1) ++ N2).map (·.1) = nils (c0 ++ c1 ++ c2) := by simp [oZ, r1.names, p1, hn0]
   have look : ∀ l, (outSto bs rs l = .none) ∨ (∃ (j : Nat) (r : Rw), rs[j]? = some r ∧ l = .rw j ∧ outSto bs rs l = .row r.ks r.e r.bytes r.xs false) ∨ (∃ (j : Nat) (b : Bx), bs[j]? = some b ∧ l = .bx j ∧ outSto bs rs l = .bx b.t b.cells.length) ∨
     (∃ (j : Nat) (b : Bx) (i : Nat) (x : AV), bs[j]? = some b ∧ b.cells[i]? = some x ∧ l = .bc j i ∧ outSto bs rs l = .av x) := by
    intro l
    unfold outSto
    rcases mO rs 0 (bO 0 bs Sto.nil) l with h1 | ⟨j, r, h1, h2, h3⟩
    ·rcases lN bs 0 Sto.nil l with h2 | ⟨j, b, q1, q2, q3⟩ | ⟨j, b, i, x, q1, q2, q3, q4⟩
     ·exact .inl (by rw [h1, h2]; rfl)
     ·exact .inr (.inr (.inl ⟨j, b, q1, by rw [q2, Nat.zero_add], by rw [h1, q3]⟩))
     ·exact .inr (.inr (.inr ⟨j, b, i, x, q1, q2, by rw [q3, Nat.zero_add], by rw [h1, q4]⟩))
    ·exact .inr (.inl ⟨j, r, h1, by rw [h2, Nat.zero_add], h3⟩)
   generalize hS : outSto bs rs = S at *
   have sat := Gh.acV G (fun n => iJ (S (.rw n))) hok hN
   have thereB : ∀ j, j < bs.length → ∃ b, bs[j]? = some b ∧ S (.bx j) = .bx b.t b.cells.length := by
    intro j hj
    refine ⟨bs[j], List.getElem?_eq_getElem hj, ?_⟩
    subst hS
    unfold outSto
    have := oX bs 0 Sto.nil (List.getElem?_eq_getElem hj)
    rw [Nat.zero_add] at this
    rcases mO rs 0 (bO 0 bs Sto.nil) (.bx j) with h1 | ⟨_, _, _, h2, _⟩
    ·rw [h1, this]
    ·cases h2
   have there : ∀ l x, x ∈ c0 ++ c1 ++ c2 → newLoc x = some l → S l ≠ .none := by
    intro l x hx hn
    have row : ∀ n, n < (Sh.vE ss).length → S (.rw n) ≠ .none := by
     intro n hlt
     have hj : n < rs.length := by omega
     subst hS
     unfold outSto
     have := zN rs 0 (bO 0 bs Sto.nil) (List.getElem?_eq_getElem hj)
     rw [Nat.zero_add] at this
     rw [this]; simp
    cases x with
    | bx o n =>
     simp only [newLoc, Option.some.injEq] at hn
     subst hn
     rcases acs hin hx with ⟨h1, h2⟩ | ⟨h1, h2⟩
     ·obtain ⟨b, _, hb⟩ := thereB n (by omega)
      rw [hb]; simp
     ·omega
    | rw o n =>
     simp only [newLoc, Option.some.injEq] at hn
     subst hn
     exact row n (zG hin (.inl ⟨o, hx⟩))
    | nilr n ks e b =>
     simp only [newLoc, Option.some.injEq] at hn
     subst hn
     exact row n (zG hin (.inr ⟨ks, e, b, hx⟩))
    | it o n => exact (agl hin hx).elim
    | fz o => simp [newLoc] at hn
   have hrel := afM (m := 0) (lb' := fun k => (G.cut (c0 ++ c1 ++ c2) ((([] : List (Nat × Value)) ++ N1) ++ N2) fun n => iJ (S (.rw n))).bb (2000000000 + k)) (S := S) (a' := act0) R hok hN (fun p hp => by
    simp only [List.mem_append] at hp
    rcases hp with (hp | hp) | hp
    ·cases hp
    ·exact r1.empty p hp
    ·exact p2 p hp) hold rfl rfl ?_ ?_ ?_ ?_ ?_ (fun _ _ _ _ => rfl) ?_
   ·refine ⟨⟨x, ss, tbs, htm, hsh _ _ _ rfl, r3, p5, o2, by omega, by omega, hcells⟩, as', bs, rs, us, G.cut (c0 ++ c1 ++ c2) ((([] : List (Nat × Value)) ++ N1) ++ N2) fun n => iJ (S (.rw n)), rfl, aiF hres, ?_⟩
    subst hS
    refine ⟨hrel, r1.val _ sat.left.right, fun l hl => ?_, fun k hk => ?_⟩
    ·obtain ⟨x, hx, hn⟩ := r1.refs l hl
     exact there l x (by simp [hx]) hn
    ·have hm : Cn.bx (2000000000 + k) k ∈ c0 ++ c1 ++ c2 := by
      rw [← hc0]
      exact List.mem_append_left _ (List.mem_append_left _ (ack (by omega) (by omega)))
     rw [sat.bx _ _ hm]
     obtain ⟨b, hb, _⟩ := thereB k (by omega)
     obtain ⟨o, arr, s1, s2, _⟩ := p6 k b hb
     simp only [Nat.zero_add] at s1
     have ho : o = 2000000000 + k := by
      rcases mK hok (List.mem_append_left _ s1) hm with e | e | e
      ·injection e
      ·simp only [Cn.meets, Nat.beq_refl, bne_eq_false_iff_eq] at e; exact Nat.eq_of_beq_eq_true e
      ·simp only [Cn.meets, Nat.beq_refl, bne_eq_false_iff_eq] at e; exact (Nat.eq_of_beq_eq_true e).symm
     subst ho
     exact R.lent k _ _ s2
   ·intro i v hv
    rcases look (.tm i) with q | ⟨_, _, _, q, _⟩ | ⟨_, _, _, q, _⟩ | ⟨_, _, _, _, _, _, q, _⟩
    ·rw [q] at hv; cases hv
    ·cases q
    ·cases q
    ·cases q
   ·intro n t k hv
    rcases look (.bx n) with q | ⟨_, _, _, q, _⟩ | ⟨j, b, q1, q2, q3⟩ | ⟨_, _, _, _, _, _, q, _⟩
    ·rw [q] at hv; cases hv
    ·cases q
    ·injection q2 with q2; subst q2
     rw [q3] at hv; injection hv with e1 e2; subst e1; subst e2
     obtain ⟨o, arr, s1, s2, _⟩ := p6 n b q1
     simp only [Nat.zero_add] at s1
     exact ⟨o, List.mem_append_left _ s1, s2⟩
    ·cases q
   ·intro n i v hv
    rcases look (.bc n i) with q | ⟨_, _, _, q, _⟩ | ⟨_, _, _, q, _⟩ | ⟨j, b, i', x, q1, q2, q3, q4⟩
    ·rw [q] at hv; cases hv
    ·cases q
    ·cases q
    ·injection q3 with e1 e2; subst e1; subst e2
     rw [q4] at hv; injection hv with hv; subst hv
     obtain ⟨o, arr, s1, s2, s3, s4, s5, s6, s7⟩ := p6 n b q1
     simp only [Nat.zero_add] at s1
     obtain ⟨u, hu, hau⟩ := s7 _ sat.right i x q2
     obtain ⟨b', hb', hSb⟩ := thereB n ((List.getElem?_eq_some_iff.1 q1).1)
     rw [q1] at hb'; obtain rfl := Option.some.inj hb'
     exact ⟨o, b.t, b.cells.length, arr, u, List.mem_append_left _ s1, hSb, s3, hu, hau, (List.all_eq_true.1 s5) _ (List.mem_of_getElem? q2)⟩
   ·intro n ks e b xs fz hv
    rcases look (.rw n) with q | ⟨j, r, q1, q2, q3⟩ | ⟨_, _, _, q, _⟩ | ⟨_, _, _, _, _, _, q, _⟩
    ·rw [q] at hv; cases hv
    ·injection q2 with q2; subst q2
     rw [q3] at hv
     injection hv with e1 e2 e3 e4 e5
     subst e1; subst e2; subst e3; subst e4; subst e5
     refine ⟨rfl, ?_⟩
     have hrow := o3 n r q1
     rw [Nat.zero_add] at hrow
     rcases agn st n (c0 ++ c1 ++ c2) with z | ⟨o, z1, z2⟩ | ⟨ks', e', b', z1, z2⟩
     ·rw [z] at hrow; cases hrow
     ·exact .inl ⟨o, z1, by rw [← z2]; exact hrow⟩
     ·rw [z2] at hrow
      injection hrow with y1 y2 y3 y4 y5
      subst y1; subst y2; subst y3
      exact .inr ⟨z1, y4.symm⟩
    ·cases q
    ·cases q
   ·intro n s p hv
    rcases look (.it n) with q | ⟨_, _, _, q, _⟩ | ⟨_, _, _, q, _⟩ | ⟨_, _, _, _, _, _, q, _⟩
    ·rw [q] at hv; cases hv
    ·cases q
    ·cases q
    ·cases q
   ·intro l v hv l' hl'
    rcases look l with q | ⟨j, r, q1, q2, q3⟩ | ⟨j, b, q1, q2, q3⟩ | ⟨j, b, i', x, q1, q2, q3, q4⟩
    ·rw [q] at hv; cases hv
    ·rw [q3] at hv; cases hv
    ·rw [q3] at hv; cases hv
    ·rw [q4] at hv; injection hv with hv; subst hv
     have := kX q2 hl'
     rw [hcells b (List.mem_of_getElem? q1)] at this
     cases this
  ·cases h
 ·cases h
theorem agH (EO : dE P E) (R : Rel X G st a w) {f : FuncId} {fn : Func} {ss : List Sh} {tbs : List (TypeId × List Sh)} {nb : Nat} {out : Out} (htm : E.tm f = some (ss, tbs)) (h : uS E f fn ss tbs nb st = some out) :
  aic E f nb out ∧ ∃ res obs ors us G', out = .ret res obs ors ∧ (results fn a.tmps).run P w = .ok (pack us) w ∧ ajJ X w res obs ors nb us G' := by
 unfold uS at h
 split at h
 ·rename_i hv
  exact rL EO R htm (fun res _ _ _ => by rw [hv]; unfold qX; cases keyOf res <;> rfl) h
 ·rename_i v vr hv
  split at h
  ·cases h
  rename_i as has
  split at h
  ·rename_i res bs rs h0
   split at h
   ·rename_i i j hi hj
    split at h
    ·rename_i hij
     have := Nat.eq_of_beq_eq_true hij; subst this
     injection h with h; subst h
     exact rL EO R htm (fun _ _ _ e => by cases e; rw [hv]; simp only [qX, hi, hj]) h0
    ·cases h
   ·rename_i hi hj
    injection h with h; subst h
    exact rL EO R htm (fun _ _ _ e => by cases e; rw [hv]; simp only [qX, hi, hj]) h0
   ·cases h
  ·cases h
theorem Base.nt {F : Nat → Prop} (b : Base X F w) (n : Nat) (l : Nat → Nat) : Base { X with nt := n, lb := l } F w := ⟨b.os, b.tape, b.output, b.size, b.keep, b.F0, b.Flt, b.Fnew⟩
theorem Rel.act (R : Rel X G st a w) (hno : ∀ i v, st (.tm i) ≠ .av v) {a' : Act} (hd : a'.defers = X.df) : Rel { X with nt := a'.tmps.size } G st a' w :=
 ⟨R.base.nt _ _, hd, rfl, fun i v h => absurd h (hno i v), R.bx, R.bc, R.rw, R.it, R.reg, R.inj, R.own, R.rv1, R.lent⟩
theorem Rel.tell (R : Rel X G st a w) {d : Nat} (hd : d < X.nt) {v : AV} (h : AVR G w v (a.tmps.getD d undef)) (hr : ∀ l ∈ v.refs, st l ≠ .none) : Rel X G (st.upd (.tm d) (.av v)) a w := by
 have := R.put hd h hr
 have e : a.put (some d) (a.tmps.getD d undef) = a := by
  have hsz : d < a.tmps.size := by rw [R.sz]; exact hd
  unfold Act.put
  simp only
  have : a.tmps.setIfInBounds d (a.tmps.getD d undef) = a.tmps := by
   apply Array.ext
   ·simp
   ·intro i h1 h2
    rw [Array.getElem_setIfInBounds]
    split
    ·rename_i e; subst e; simp [Array.getD_eq_getD_getElem?, Array.getElem?_eq_getElem hsz]
    ·rfl
  rw [this]
 rwa [e] at this
theorem agc : ∀ {args : List AV} {vs : List Value} {i : Nat} {st : Sto}, Rel X G st a w → AVRs G w args vs → (∀ (j : Nat) (u : Value), vs[j]? = some u → a.tmps.getD (i + j) undef = u) → i + args.length ≤ X.nt → (∀ l ∈ AV.refsL args, st l ≠ .none) →
  Rel X G (sM i args st) a w
 | [], vs, i, st, R, hA, hv, hl, hr => R
 | x :: args, vs, i, st, R, hA, hv, hl, hr => by
  cases hA with
  | cons _ u _ us hx hs =>
   simp only [sM]
   simp only [List.length_cons] at hl
   have h0 := hv 0 u (by simp)
   rw [Nat.add_zero] at h0
   refine agc (R.tell (d := i) (by omega) (by rw [h0]; exact hx) (fun l hl => hr l (by simp [AV.refsL, hl]))) hs (fun j u hj => ?_) (by omega) (fun l hl => ?_)
   ·rw [show i + 1 + j = i + (j + 1) by omega]
    exact hv (j + 1) u (by simpa using hj)
   ·by_cases e : Loc.tm i = l
    ·subst e; simp
    ·rw [aP _ _ e]; exact hr l (by simp [AV.refsL, hl])
theorem alK (bs : List Bx) (rs : List Rw) (i : Nat) (v : AV) : inSto bs rs (.tm i) ≠ .av v := by
 unfold inSto
 rcases mO rs 2000000000 (bO 2000000000 bs Sto.nil) (.tm i) with h1 | ⟨_, _, _, h, _⟩
 ·rcases lN bs 2000000000 Sto.nil (.tm i) with h2 | ⟨_, _, _, h, _⟩ | ⟨_, _, _, _, _, _, h, _⟩
  ·rw [h1, h2]; simp [Sto.nil]
  ·cases h
  ·cases h
 ·cases h
theorem ajB (EO : dE P E) (hops : aag P E Γ) (hL : ag2 P E Λ) (hdraw : aeQ P E Γ) : tW P E (body E Γ Λ) := by
 intro f args bs rs out h w G vs hE
 unfold body at h
 split at h
 ·cases h
 rename_i fn hfn
 split at h
 ·cases h
 rename_i c hc
 split at h
 ·cases h
 rename_i ss tbs htm
 split at h
 ·cases h
 rename_i hcond
 simp only [Bool.not_eq_true', Bool.and_eq_true, Bool.not_eq_false, Bool.not_not] at hcond
 obtain ⟨hok, hle⟩ := hcond
 have hle' := Nat.le_of_ble_eq_true hle
 obtain ⟨hf, _, _⟩ := EO.fn f fn hfn
 refine calls_of_wp hf hc ?_
 have hvl : vs.length = args.length := hE.avs.length.symm
 have hsz : (({ tmps := ⟨vs⟩ ++ Array.replicate (fn.ntmps - (⟨vs⟩ : Array Value).size) undef, defers := [] } : Act)).tmps.size = fn.ntmps := by simp; omega
 generalize hact : (({ tmps := ⟨vs⟩ ++ Array.replicate (fn.ntmps - (⟨vs⟩ : Array Value).size) undef, defers := [] } : Act)) = act at *
 have R0 := hE.rel.act (alK bs rs) (a' := act) (by subst hact; rfl)
 have R1 := agc (i := 0) R0 hE.avs (fun j u hj => by
  subst hact
  have hlt := (List.getElem?_eq_some_iff.1 hj).1
  simp only [Nat.zero_add, Array.getD_eq_getD_getElem?]
  rw [Array.getElem?_append_left (by simpa using hlt)]
  simp [hj]) (by simp only [hsz, Nat.zero_add]; exact hle') hE.refs
 have hF : FOK { entCtx w G bs rs with nt := act.tmps.size } := fun k hk => ⟨hE.rel.base.Flt k hk, fun ⟨l, hl⟩ => (hE.rel.own l k hl).1 hk⟩
 refine wp_mono (aec EO hops hL hdraw adv hF c _ _ G act w (by simpa only [hsz] using hok) h R1) (fun e a' w' hq => ?_)
 have hfin : ∀ G' st', Rel { entCtx w G bs rs with nt := act.tmps.size } G' st' a' w' → uS E f fn ss tbs bs.length st' = some out →
   a'.defers = [] ∧ ∃ v, (results fn a'.tmps).run P w' = .ok v w' ∧ xP E f (entCtx w G bs rs) bs.length out (.returned v) w' := by
  intro G' st' R' hfs
  obtain ⟨hco, res, obs, ors, us, G2, ho, hres, hfr⟩ := agH EO R' htm hfs
  exact ⟨R'.defers, pack us, hres, hco, res, obs, ors, us, G2, ho, rfl, ⟨hfr.rel, hfr.rvs, hfr.refs, hfr.boxes⟩⟩
 cases e with
 | normal =>
  obtain ⟨G', st', R', h'⟩ := hq
  exact hfin G' st' R' h'
 | ret =>
  obtain ⟨G', st', R', h'⟩ := hq
  exact hfin G' st' R' h'
 | exit i =>
  obtain ⟨G', st', R', h'⟩ := hq
  simp [afH] at h'
 | panic chain =>
  obtain ⟨v, st', G', H', u, hch, hv, hb, hR, h'⟩ := hq
  have hd := hR.defers
  simp only [afH, akw] at h'
  split at h'
  ·cases h'
  ·rename_i sh hsh
   split at h'
   ·rename_i hps
    simp only [Option.some.injEq] at h'
    subst h'
    obtain ⟨h1, h2⟩ := al3 hps
    exact ⟨hd, ⟨sh, hsh, h1, h2⟩, v, rfl, G', u, hch, hv, ⟨hb.os, hb.tape, hb.output, hb.size, hb.keep, hb.F0, hb.Flt, hb.Fnew⟩⟩
   ·cases h'
 | goto l => exact hq.elim
 | outgrown => exact hq.elim
end
end PX
set_option linter.unusedVariables false
set_option linter.unusedSimpArgs false
namespace PX
open Go
def ajY (G G2 : Gh) (fb fr : Nat → Nat) : Loc → Prop
 | .bx b => G2.bb (fb b) = G.bb b
 | .rw r => G2.rv (fr r) = G.rv r ∧ G2.rs (fr r) = G.rs r
 | .it i => G2.ib i = G.ib i
 | _ => True
section
variable {w : World}
mutual
theorem AVR.ren {G G2 : Gh} {fb fr : Nat → Nat} (hF : ∀ k, G.F k → G2.F k) : ∀ {x : AV} {u : Value}, AVR G w x u → (∀ l ∈ x.refs, ajY G G2 fb fr l) → AVR G2 w (x.ren fb fr) u
 | _, _, .d h, _ => .d (h.mono hF (fun _ _ => rfl))
 | _, _, .dead v, _ => .dead v
 | _, _, .undf, _ => .undf
 | _, _, .anyb b, _ => .anyb b
 | _, _, .nil a, _ => .nil a
 | _, _, .nilp, _ => .nilp
 | _, _, .nilf, _ => .nilf
 | _, _, .nili, _ => .nili
 | _, _, .ptr b o, h => by
  have : G2.bb (fb b) = G.bb b := h (.bx b) (by simp [AV.refs])
  rw [← this]; exact .ptr (fb b) o
 | _, _, .ep ks e off ad us hF' hl hc, _ => .ep ks e off ad us (hF _ hF') hl fun i d k h1 h2 => by
   obtain ⟨h3, h4⟩ := hc i d k h1 h2
   exact ⟨h3, h4.mono hF (fun _ _ => rfl)⟩
 | _, _, .rp r i off g b n c hv hi, h => by
  obtain ⟨h1, h2⟩ : G2.rv (fr r) = G.rv r ∧ G2.rs (fr r) = G.rs r := h (.rw r) (by simp [AV.refs])
  rw [← h2]; exact .rp (fr r) i off g b n c (by rw [h1]; exact hv) hi
 | _, _, .row r, h => by
  obtain ⟨h1, h2⟩ : G2.rv (fr r) = G.rv r ∧ G2.rs (fr r) = G.rs r := h (.rw r) (by simp [AV.refs])
  rw [← h1]; exact .row (fr r)
 | _, _, .win r lo n b a n0 c0 c hv hn hc ha, h => by
  obtain ⟨h1, h2⟩ : G2.rv (fr r) = G.rv r ∧ G2.rs (fr r) = G.rs r := h (.rw r) (by simp [AV.refs])
  exact .win (fr r) lo n b a n0 c0 c (by rw [h1]; exact hv) hn hc (by rw [h2]; exact ha)
 | _, _, .agg cs vs h, hr => .agg _ vs (AVRs.ren hF h (by simpa [AV.refs] using hr))
 | _, _, .tup cs vs h, hr => .tup _ vs (AVRs.ren hF h (by simpa [AV.refs] using hr))
 | _, _, .fn f a c va vc ha hc, hr => .fn f _ _ va vc (AVRs.ren hF ha fun l hl => hr l (by simp [AV.refs, hl])) (AVRs.ren hF hc fun l hl => hr l (by simp [AV.refs, hl]))
 | _, _, .it i, h => by
  have : G2.ib i = G.ib i := h (.it i) (by simp [AV.refs])
  rw [← this]; exact .it i
 | _, _, .ifc t a v h, hr => .ifc t _ v (AVR.ren hF h (by simpa [AV.refs] using hr))
theorem AVRs.ren {G G2 : Gh} {fb fr : Nat → Nat} (hF : ∀ k, G.F k → G2.F k) : ∀ {xs : List AV} {us : List Value}, AVRs G w xs us → (∀ l ∈ AV.refsL xs, ajY G G2 fb fr l) → AVRs G2 w (AV.xL fb fr xs) us
 | _, _, .nil, _ => .nil
 | _, _, .cons a v as vs h hs, hr => .cons _ v _ vs (AVR.ren hF h fun l hl => hr l (by simp [AV.refsL, hl])) (AVRs.ren hF hs fun l hl => hr l (by simp [AV.refsL, hl]))
end
def Gh.lS (G : Gh) (F : Nat → Prop) : Gh := { G with F := F }
mutual
theorem aho {G : Gh} (F : Nat → Prop) : ∀ (s : Sh) {x : AV} {u : Value}, Sh.co s x = x → Sh.leads s = false → AVR G w x u → AVR (G.lS F) w x u
 | .int k, x, u, hx, hl, h => by
  obtain ⟨n, rfl⟩ : ∃ n, x = .d (.int k n) := ⟨_, hx.symm⟩
  rw [h.iI]; exact .d (.int k n)
 | .bool, x, u, hx, hl, h => by
  obtain ⟨n, rfl⟩ : ∃ n, x = .d (.bool n) := ⟨_, hx.symm⟩
  rw [h.mT]; exact .d (.bool n)
 | .str, x, u, hx, hl, h => by
  obtain ⟨n, rfl⟩ : ∃ n, x = .d (.str n) := ⟨_, hx.symm⟩
  rw [h.kO]; exact .d (.str n)
 | .sl ks, x, u, hx, hl, h => by simp [Sh.leads] at hl
 | .row r ks e b, x, u, hx, hl, h => by
  obtain rfl : x = .row r := hx.symm
  cases h; exact AVR.row (G := G.lS F) r
 | .win r, x, u, hx, hl, h => by
  obtain rfl : x = .row r := hx.symm
  cases h; exact AVR.row (G := G.lS F) r
 | .ptr b o, x, u, hx, hl, h => by
  obtain rfl : x = .ptr b o := hx.symm
  cases h; exact AVR.ptr (G := G.lS F) b o
 | .agg ss, x, u, hx, hl, h => by
  obtain ⟨cs, rfl⟩ : ∃ cs, x = .agg cs := ⟨_, hx.symm⟩
  cases h with
  | agg cs vs hcs => exact .agg _ _ (rX F ss (by simpa [Sh.co, cellsOf] using hx) (by simpa [Sh.leads] using hl) hcs)
 | .it i, x, u, hx, hl, h => by
  obtain rfl : x = .it i := hx.symm
  cases h; exact AVR.it (G := G.lS F) i
 | .nilp, x, u, hx, hl, h => by
  obtain rfl : x = .nilp := hx.symm
  cases h; exact .nilp
 | .fn f p q, x, u, hx, hl, h => by
  obtain ⟨a, b, rfl⟩ : ∃ a b, x = .fn f a b := ⟨_, _, hx.symm⟩
  simp only [Sh.co, AV.fn.injEq, true_and] at hx
  simp only [Sh.leads, Bool.or_eq_false_iff] at hl
  cases h with
  | fn _ _ _ va vc ha hc => exact .fn _ _ _ _ _ (rX F p hx.1 hl.1 ha) (rX F q hx.2 hl.2 hc)
 | .ifc t s, x, u, hx, hl, h => by
  obtain ⟨v, rfl⟩ : ∃ v, x = .ifc t v := ⟨_, hx.symm⟩
  simp only [Sh.co, AV.ifc.injEq, true_and] at hx
  cases h with
  | ifc _ _ v' hv => exact .ifc _ _ _ (aho F s hx (by simpa [Sh.leads] using hl) hv)
 | .any, x, u, hx, hl, h => by simp [Sh.leads] at hl
theorem rX {G : Gh} (F : Nat → Prop) : ∀ (ss : List Sh) {xs : List AV} {us : List Value}, Sh.coL ss xs = xs → Sh.mI ss = false → AVRs G w xs us → AVRs (G.lS F) w xs us
 | [], xs, us, hx, hl, h => by
  obtain rfl : xs = [] := hx.symm
  cases h; exact .nil
 | s :: ss, xs, us, hx, hl, h => by
  simp only [Sh.coL] at hx
  cases h with
  | nil => simp at hx
  | cons x u xs us h hs =>
   simp only [List.headD_cons, List.tail_cons, List.cons.injEq] at hx
   simp only [Sh.mI, Bool.or_eq_false_iff] at hl
   exact .cons _ _ _ _ (aho F s hx.1 hl.1 h) (rX F ss hx.2 hl.2 hs)
end
end
theorem any_beq {x : Nat} {l : List Nat} : l.any (Nat.beq x) = true ↔ x ∈ l := by
 rw [List.any_eq_true]
 constructor
 ·rintro ⟨y, hy, h⟩; rw [Nat.eq_of_beq_eq_true h]; exact hy
 ·intro h; exact ⟨x, h, Nat.beq_refl x⟩
theorem y7 {x : Nat} : ∀ {l acc : List Nat}, x ∈ dedup acc l ↔ x ∈ acc ∨ x ∈ l
 | [], acc => by simp [dedup]
 | y :: l, acc => by
  simp only [dedup]
  split
  ·rename_i h
   rw [y7]
   have := any_beq.1 h
   constructor
   ·rintro (h | h)
    ·exact .inl h
    ·exact .inr (by simp [h])
   ·rintro (h | h)
    ·exact .inl h
    ·rcases List.mem_cons.1 h with rfl | h
     ·exact .inl this
     ·exact .inr h
  ·rw [y7]
   simp only [List.mem_cons]
   constructor
   ·rintro ((h | h) | h)
    ·exact .inr (.inl h)
    ·exact .inl h
    ·exact .inr (.inr h)
   ·rintro (h | h | h)
    ·exact .inl (.inr h)
    ·exact .inl (.inl h)
    ·exact .inr h
theorem vF : ∀ {l acc : List Nat}, acc.Nodup → (dedup acc l).Nodup
 | [], acc, h => by
  simp only [dedup]
  exact List.pairwise_reverse.2 (List.Pairwise.imp (fun h => Ne.symm h) h)
 | y :: l, acc, h => by
  simp only [dedup]
  split
  ·exact vF h
  ·rename_i hn
   refine vF (List.nodup_cons.2 ⟨fun hm => hn (any_beq.2 hm), h⟩)
theorem aiL {as : List AV} {b : Nat} : b ∈ sC as ↔ .bx b ∈ AV.refsL as := by
 unfold sC
 rw [y7]
 simp only [List.not_mem_nil, false_or, List.mem_filterMap]
 constructor
 ·rintro ⟨l, hl, h⟩
  cases l <;> simp at h
  subst h; exact hl
 ·intro h; exact ⟨_, h, rfl⟩
theorem w8 {x : Nat} : ∀ {l : List Nat}, x ∈ l → l[idx x l]? = some x
 | [], h => by simp at h
 | y :: l, h => by
  simp only [idx]
  cases hb : Nat.beq x y with
  | true => rw [Nat.eq_of_beq_eq_true hb]; simp
  | false =>
   have hne : x ≠ y := fun e => by subst e; simp at hb
   have := w8 ((List.mem_cons.1 h).resolve_left hne)
   simpa using this
section
variable {P : Program} {E : Env} {Γ : Fun} {X : Ctx} {G : Gh} {st : Sto} {a : Act} {w : World} {tr : Tr} {po : PO}
theorem aaj (R : Rel X G st a w) {x : AV} {u : Value} {c : AV → Pr} (hx : AVR G w x u) (h : prE Γ (xD x c) st tr = some po) :
  ∃ G' st' x' tr', Rel X G' st' a w ∧ GLe G G' ∧ SLe st st' ∧ AVR G' w x' u ∧ (x.one = true → x'.one = true) ∧ (∀ l ∈ x'.refs, l ∈ x.refs) ∧ prE Γ (c x') st' tr' = some po := by
 unfold xD at h
 split at h
 ·rename_i r
  simp only [prE] at h
  split at h
  ·rename_i ks e by_ xs fz hr
   simp only [prE] at h
   obtain ⟨f, R', hf, _⟩ := R.freeze hr
   obtain ⟨q1, q2, q3, q4, q5⟩ := R'.rw r ks e by_ xs true (by simp)
   cases hx
   exact ⟨_, _, _, _, R', .fT G f, .freeze hr, .d (q4.data q3 (fun g hg => hf g hg)), fun _ => rfl, by simp [AV.refs], h⟩
  ·exact (aY h).elim
 ·rename_i r lo n
  simp only [prE] at h
  split at h
  ·rename_i ks e by_ xs fz hr
   simp only [prE] at h
   obtain ⟨f, R', hf, _⟩ := R.freeze hr
   have hwin' : AVR (G.fT f) w (.win r lo n) u := (GLe.fT G f).avr hx
   cases hx with
   | win _ _ _ b a' n0 c0 c' hv hn hc' ha =>
    obtain ⟨q1, q2, q3, q4, q5⟩ := R'.rw r ks e by_ xs true (by simp)
    have hs := (w3 R' (r := r) (ks := ks) (e := e) (by_ := by_) (xs := xs) (fz := true) (by simp) hwin').1
    refine ⟨_, _, _, _, R', .fT G f, .freeze hr, .d (hs.data q3 (fun b' n' c'' hb hx => ?_)), fun _ => rfl, by simp [AV.refs], h⟩
    rw [hb] at hwin'
    exact hf _ (acR R' (r := r) (ks := ks) (e := e) (by_ := by_) (xs := xs) (fz := true) (by simp) hwin' hx)
  ·exact (aY h).elim
 ·exact ⟨G, st, x, tr, R, .refl _, .refl _, hx, fun h => h, fun l h => h, h⟩
theorem sV : ∀ {xs : List AV} {us : List Value} {c : List AV → Pr} {G : Gh} {st : Sto} {tr : Tr}, Rel X G st a w → AVRs G w xs us → prE Γ (rR xs c) st tr = some po →
  ∃ G' st' xs' tr', Rel X G' st' a w ∧ GLe G G' ∧ SLe st st' ∧ AVRs G' w xs' us ∧ (xs.all AV.one = true → xs'.all AV.one = true) ∧ (∀ l ∈ AV.refsL xs', l ∈ AV.refsL xs) ∧ prE Γ (c xs') st' tr' = some po
 | [], us, c, G, st, tr, R, hx, h => ⟨G, st, [], tr, R, .refl _, .refl _, hx, fun h => h, fun l h => h, h⟩
 | x :: xs, us, c, G, st, tr, R, hx, h => by
  cases hx with
  | cons _ u _ us hxu hxs =>
   obtain ⟨G1, st1, x', tr1, R1, g1, s1, h1, o1, f1, h2⟩ := aaj R hxu (show prE Γ (xD x fun y => rR xs fun l => c (y :: l)) st tr = some po from h)
   obtain ⟨G2, st2, xs', tr2, R2, g2, s2, h3, o2, f2, h4⟩ := sV R1 (g1.uL hxs) h2
   refine ⟨G2, st2, x' :: xs', tr2, R2, g1.trans g2, s1.trans s2, .cons _ _ _ _ (g2.avr h1) h3, fun ho => ?_, fun l hl => ?_, h4⟩
   ·simp only [List.all_cons, Bool.and_eq_true] at ho ⊢
    exact ⟨o1 ho.1, o2 ho.2⟩
   ·simp only [AV.refsL, List.mem_append] at hl ⊢
    exact hl.imp (f1 l) (f2 l)
theorem aiO (R : Rel X G st a w) {x : AV} {u : Value} {c : AV → Pr} (hx : AVR G w x u) (h : prE Γ (acL x c) st tr = some po) :
  ∃ G' st' x' tr', Rel X G' st' a w ∧ GLe G G' ∧ SLe st st' ∧ AVR G' w x' u ∧ (∀ l ∈ x'.refs, l ∈ x.refs) ∧ prE Γ (c x') st' tr' = some po := by
 unfold acL at h
 split at h
 ·rename_i cs
  cases hx with
  | agg _ vs hcs =>
   obtain ⟨G1, st1, xs', tr1, R1, g1, s1, h1, _, f1, h2⟩ := sV R hcs h
   exact ⟨G1, st1, _, tr1, R1, g1, s1, .agg _ _ h1, by simpa [AV.refs] using f1, h2⟩
 ·obtain ⟨G1, st1, x', tr1, R1, g1, s1, h1, _, f1, h2⟩ := aaj R hx h
  exact ⟨G1, st1, x', tr1, R1, g1, s1, h1, f1, h2⟩
theorem abm : ∀ {xs : List AV} {us : List Value} {c : List AV → Pr} {G : Gh} {st : Sto} {tr : Tr}, Rel X G st a w → AVRs G w xs us → prE Γ (y0 xs c) st tr = some po →
  ∃ G' st' xs' tr', Rel X G' st' a w ∧ GLe G G' ∧ SLe st st' ∧ AVRs G' w xs' us ∧ (∀ l ∈ AV.refsL xs', l ∈ AV.refsL xs) ∧ prE Γ (c xs') st' tr' = some po
 | [], us, c, G, st, tr, R, hx, h => ⟨G, st, [], tr, R, .refl _, .refl _, hx, fun l h => h, h⟩
 | x :: xs, us, c, G, st, tr, R, hx, h => by
  cases hx with
  | cons _ u _ us hxu hxs =>
   obtain ⟨G1, st1, x', tr1, R1, g1, s1, h1, f1, h2⟩ := aiO R hxu (show prE Γ (acL x fun y => y0 xs fun l => c (y :: l)) st tr = some po from h)
   obtain ⟨G2, st2, xs', tr2, R2, g2, s2, h3, f2, h4⟩ := abm R1 (g1.uL hxs) h2
   refine ⟨G2, st2, x' :: xs', tr2, R2, g1.trans g2, s1.trans s2, .cons _ _ _ _ (g2.avr h1) h3, fun l hl => ?_, h4⟩
   simp only [AV.refsL, List.mem_append] at hl ⊢
   exact hl.imp (f1 l) (f2 l)
theorem acA (R : Rel X G st a w) {k : Option (List CK × TypeId × Nat)} {x : AV} {u : Value} {c : AV → Pr} (hx : AVR G w x u) (h : prE Γ (yC k x c) st tr = some po) :
  ∃ G' st' x' tr', Rel X G' st' a w ∧ GLe G G' ∧ AVR G' w x' u ∧ prE Γ (c x') st' tr' = some po := by
 unfold yC at h
 split at h
 ·exact ⟨G, st, x, tr, R, .refl _, hx, h⟩
 ·obtain ⟨G1, st1, x', tr1, R1, g1, s1, h1, _, f1, h2⟩ := aaj R hx h
  exact ⟨G1, st1, x', tr1, R1, g1, h1, h2⟩
theorem abr : ∀ {ks : List (Option (List CK × TypeId × Nat))} {xs : List AV} {us : List Value} {c : List AV → Pr} {G : Gh} {st : Sto} {tr : Tr}, Rel X G st a w → AVRs G w xs us → prE Γ (y9 ks xs c) st tr = some po →
  ∃ G' st' xs' tr', Rel X G' st' a w ∧ GLe G G' ∧ AVRs G' w xs' us ∧ prE Γ (c xs') st' tr' = some po
 | [], xs, us, c, G, st, tr, R, hx, h => by
  obtain ⟨G1, st1, xs', tr1, R1, g1, s1, h1, _, f1, h2⟩ := sV R hx (show prE Γ (rR xs c) st tr = some po by cases xs <;> exact h)
  exact ⟨G1, st1, xs', tr1, R1, g1, h1, h2⟩
 | k :: ks, [], us, c, G, st, tr, R, hx, h => by
  cases hx
  exact ⟨G, st, [], tr, R, .refl _, .nil, h⟩
 | k :: ks, x :: xs, us, c, G, st, tr, R, hx, h => by
  cases hx with
  | cons _ u _ us hxu hxs =>
   obtain ⟨G1, st1, x', tr1, R1, g1, h1, h2⟩ := acA R hxu (show prE Γ (yC k x fun y => y9 ks xs fun l => c (y :: l)) st tr = some po from h)
   obtain ⟨G2, st2, xs', tr2, R2, g2, h3, h4⟩ := abr R1 (g1.uL hxs) h2
   exact ⟨G2, st2, x' :: xs', tr2, R2, g1.trans g2, .cons _ _ _ _ (g2.avr h1) h3, h4⟩
theorem agM (R : Rel X G st a w) {ks : List (Option (List CK × TypeId × Nat))} {x : AV} {u : Value} {c : AV → Pr} (hx : AVR G w x u) (h : prE Γ (zD ks x c) st tr = some po) :
  ∃ G' st' x' tr', Rel X G' st' a w ∧ GLe G G' ∧ AVR G' w x' u ∧ prE Γ (c x') st' tr' = some po := by
 unfold zD at h
 split at h
 ·cases hx with
  | agg _ vs hcs =>
   obtain ⟨G1, st1, xs', tr1, R1, g1, h1, h2⟩ := abr R hcs h
   exact ⟨G1, st1, _, tr1, R1, g1, .agg _ _ h1, h2⟩
 ·exact acA R hx h
theorem aaA : ∀ {ks : List (List (Option (List CK × TypeId × Nat)))} {xs : List AV} {us : List Value} {c : List AV → Pr} {G : Gh} {st : Sto} {tr : Tr}, Rel X G st a w → AVRs G w xs us → prE Γ (wU ks xs c) st tr = some po →
  ∃ G' st' xs' tr', Rel X G' st' a w ∧ GLe G G' ∧ AVRs G' w xs' us ∧ prE Γ (c xs') st' tr' = some po
 | [], xs, us, c, G, st, tr, R, hx, h => ⟨G, st, xs, tr, R, .refl _, hx, by cases xs <;> exact h⟩
 | k :: ks, [], us, c, G, st, tr, R, hx, h => by
  cases hx
  exact ⟨G, st, [], tr, R, .refl _, .nil, h⟩
 | k :: ks, x :: xs, us, c, G, st, tr, R, hx, h => by
  cases hx with
  | cons _ u _ us hxu hxs =>
   obtain ⟨G1, st1, x', tr1, R1, g1, h1, h2⟩ := agM R hxu (show prE Γ (zD k x fun y => wU ks xs fun l => c (y :: l)) st tr = some po from h)
   obtain ⟨G2, st2, xs', tr2, R2, g2, h3, h4⟩ := aaA R1 (g1.uL hxs) h2
   exact ⟨G2, st2, x' :: xs', tr2, R2, g1.trans g2, .cons _ _ _ _ (g2.avr h1) h3, h4⟩
structure NLe (G : Gh) (st : Sto) (w : World) (G' : Gh) (st' : Sto) : Prop where
 reg : ∀ l, st l ≠ .none → st' l ≠ .none
 avr : ∀ {x : AV} {u : Value}, AVR G w x u → (∀ l ∈ x.refs, st l ≠ .none) → AVR G' w x u
theorem NLe.refl (G : Gh) (st : Sto) (w : World) : NLe G st w G st := ⟨fun _ h => h, fun h _ => h⟩
theorem NLe.trans {G G1 G2 : Gh} {st st1 st2 : Sto} (h : NLe G st w G1 st1) (k : NLe G1 st1 w G2 st2) : NLe G st w G2 st2 :=
 ⟨fun l hl => k.reg l (h.reg l hl), fun hx hr => k.avr (h.avr hx hr) (fun l hl => h.reg l (hr l hl))⟩
theorem NLe.uL {G G' : Gh} {st st' : Sto} (h : NLe G st w G' st') : ∀ {xs : List AV} {us : List Value}, AVRs G w xs us → (∀ l ∈ AV.refsL xs, st l ≠ .none) → AVRs G' w xs us
 | _, _, .nil, _ => .nil
 | _, _, .cons x u xs us hx hs, hr => .cons _ _ _ _ (h.avr hx fun l hl => hr l (by simp [AV.refsL, hl])) (h.uL hs fun l hl => hr l (by simp [AV.refsL, hl]))
theorem adu (R : Rel X G st a w) {n : Nat} {k : Option (List CK × TypeId × Nat)} {x : AV} {u : Value} {c : AV → Pr} (hx : AVR G w x u) (hr : ∀ l ∈ x.refs, st l ≠ .none) (h : prE Γ (aaD n k x c) st tr = some po) :
  ∃ G' st' x' tr', Rel X G' st' a w ∧ NLe G st w G' st' ∧ AVR G' w x' u ∧ (∀ l ∈ x'.refs, st' l ≠ .none) ∧ prE Γ (c x') st' tr' = some po := by
 unfold aaD at h
 split at h
 ·rename_i ks e b
  obtain ⟨hc, h1⟩ := bS h
  simp only [Bool.and_eq_true, Bool.not_eq_true'] at hc
  obtain ⟨hf, tr', h2⟩ := vX h1
  simp only [prE] at h2
  have hk0 : 0 < ks.length := by
   rcases ks with _ | ⟨k, ks⟩
   ·simp at hc
   ·simp
  cases hx with
  | nil ad =>
   have hb : ∀ g, rowBlk (.slice ad 0 0) = some g → False := fun g hg => by cases ad <;> simp [rowBlk] at hg
   have R1 := R.ae9 hf (by_ := b) (ks := ks) (e := e) (xs := []) (v := .slice ad 0 0) hc.1 hk0 (RowV.nil ad) (fun g hg => (hb g hg).elim)
   refine ⟨_, _, .row n, _, R1, ⟨fun l hl => ?_, fun {y v} hy hry => ?_⟩, ?_, ?_, h2⟩
   ·by_cases e' : Loc.rw n = l
    ·subst e'; simp
    ·rw [aP _ _ e']; exact hl
   ·refine AVR.mono (G := G) (G' := G.iQ n (.slice ad 0 0) ks.length) (w := w) (w' := w) (fun _ h => h) (fun _ _ => rfl) hy (fun l hl => ?_)
    have hl' := hry l hl
    cases l <;> simp only [fX, Gh.iQ]
    rename_i m
    have : m ≠ n := by rintro rfl; exact hl' hf
    simp [this]
   ·have hG : (G.iQ n (.slice ad 0 0) ks.length).rv n = .slice ad 0 0 := by simp [Gh.iQ]
    have := AVR.row (G := G.iQ n (.slice ad 0 0) ks.length) (w := w) n
    rwa [hG] at this
   ·intro l hl
    simp [AV.refs] at hl
    subst hl
    simp
 ·exact ⟨G, st, x, tr, R, .refl _ _ _, hx, hr, h⟩
theorem abF : ∀ {ks : List (Option (List CK × TypeId × Nat))} {n : Nat} {xs : List AV} {us : List Value} {c : List AV → Pr} {G : Gh} {st : Sto} {tr : Tr}, Rel X G st a w → AVRs G w xs us → (∀ l ∈ AV.refsL xs, st l ≠ .none) → prE Γ (abf n ks xs c) st tr = some po →
  ∃ G' st' xs' tr', Rel X G' st' a w ∧ NLe G st w G' st' ∧ AVRs G' w xs' us ∧ (∀ l ∈ AV.refsL xs', st' l ≠ .none) ∧ prE Γ (c xs') st' tr' = some po
 | [], n, xs, us, c, G, st, tr, R, hx, hr, h => ⟨G, st, xs, tr, R, .refl _ _ _, hx, hr, by cases xs <;> exact h⟩
 | k :: ks, n, [], us, c, G, st, tr, R, hx, hr, h => by
  cases hx
  exact ⟨G, st, [], tr, R, .refl _ _ _, .nil, by simp [AV.refsL], h⟩
 | k :: ks, n, x :: xs, us, c, G, st, tr, R, hx, hr, h => by
  cases hx with
  | cons _ u _ us hxu hxs =>
   have hr1 : ∀ l ∈ x.refs, st l ≠ .none := fun l hl => hr l (by simp [AV.refsL, hl])
   have hr2 : ∀ l ∈ AV.refsL xs, st l ≠ .none := fun l hl => hr l (by simp [AV.refsL, hl])
   obtain ⟨G1, st1, x', tr1, R1, g1, h1, f1, h2⟩ := adu R hxu hr1 (show prE Γ (aaD n k x fun y => abf (n + 1) ks xs fun l => c (y :: l)) st tr = some po from h)
   obtain ⟨G2, st2, xs', tr2, R2, g2, h3, f2, h4⟩ := abF R1 (g1.uL hxs hr2) (fun l hl => g1.reg l (hr2 l hl)) h2
   refine ⟨G2, st2, x' :: xs', tr2, R2, g1.trans g2, .cons _ _ _ _ (g2.avr h1 f1) h3, fun l hl => ?_, h4⟩
   simp only [AV.refsL, List.mem_append] at hl
   exact hl.elim (fun hl => g2.reg l (f1 l hl)) (f2 l)
theorem aiS (R : Rel X G st a w) {n : Nat} {ks : List (Option (List CK × TypeId × Nat))} {x : AV} {u : Value} {c : AV → Pr} (hx : AVR G w x u) (hr : ∀ l ∈ x.refs, st l ≠ .none) (h : prE Γ (acK n ks x c) st tr = some po) :
  ∃ G' st' x' tr', Rel X G' st' a w ∧ NLe G st w G' st' ∧ AVR G' w x' u ∧ (∀ l ∈ x'.refs, st' l ≠ .none) ∧ prE Γ (c x') st' tr' = some po := by
 unfold acK at h
 split at h
 ·cases hx with
  | agg _ vs hcs =>
   obtain ⟨G1, st1, xs', tr1, R1, g1, h1, f1, h2⟩ := abF R hcs (by simpa [AV.refs] using hr) h
   exact ⟨G1, st1, _, tr1, R1, g1, .agg _ _ h1, by simpa [AV.refs] using f1, h2⟩
 ·exact adu R hx hr h
theorem aiu : ∀ {ks : List (List (Option (List CK × TypeId × Nat)))} {n : Nat} {xs : List AV} {us : List Value} {c : List AV → Pr} {G : Gh} {st : Sto} {tr : Tr}, Rel X G st a w → AVRs G w xs us → (∀ l ∈ AV.refsL xs, st l ≠ .none) → prE Γ (aaI n ks xs c) st tr = some po →
  ∃ G' st' xs' tr', Rel X G' st' a w ∧ AVRs G' w xs' us ∧ prE Γ (c xs') st' tr' = some po
 | [], n, xs, us, c, G, st, tr, R, hx, hr, h => ⟨G, st, xs, tr, R, hx, by cases xs <;> exact h⟩
 | k :: ks, n, [], us, c, G, st, tr, R, hx, hr, h => by
  cases hx
  exact ⟨G, st, [], tr, R, .nil, h⟩
 | k :: ks, n, x :: xs, us, c, G, st, tr, R, hx, hr, h => by
  suffices H : ∃ G' st' xs' tr', Rel X G' st' a w ∧ NLe G st w G' st' ∧ AVRs G' w xs' us ∧ (∀ l ∈ AV.refsL xs', st' l ≠ .none) ∧ prE Γ (c xs') st' tr' = some po by
   obtain ⟨G', st', xs', tr', h1, _, h2, _, h3⟩ := H
   exact ⟨G', st', xs', tr', h1, h2, h3⟩
  exact nilRows_aux hr hx R h
where
 nilRows_aux : ∀ {ks : List (List (Option (List CK × TypeId × Nat)))} {n : Nat} {xs : List AV} {us : List Value} {c : List AV → Pr} {G : Gh} {st : Sto} {tr : Tr}, (∀ l ∈ AV.refsL xs, st l ≠ .none) → AVRs G w xs us → Rel X G st a w → prE Γ (aaI n ks xs c) st tr = some po →
  ∃ G' st' xs' tr', Rel X G' st' a w ∧ NLe G st w G' st' ∧ AVRs G' w xs' us ∧ (∀ l ∈ AV.refsL xs', st' l ≠ .none) ∧ prE Γ (c xs') st' tr' = some po
 | [], n, xs, us, c, G, st, tr, hr, hx, R, h => ⟨G, st, xs, tr, R, .refl _ _ _, hx, hr, by cases xs <;> exact h⟩
 | k :: ks, n, [], us, c, G, st, tr, hr, hx, R, h => by
  cases hx
  exact ⟨G, st, [], tr, R, .refl _ _ _, .nil, by simp [AV.refsL], h⟩
 | k :: ks, n, x :: xs, us, c, G, st, tr, hr, hx, R, h => by
  cases hx with
  | cons _ u _ us hxu hxs =>
   have hr1 : ∀ l ∈ x.refs, st l ≠ .none := fun l hl => hr l (by simp [AV.refsL, hl])
   have hr2 : ∀ l ∈ AV.refsL xs, st l ≠ .none := fun l hl => hr l (by simp [AV.refsL, hl])
   obtain ⟨G1, st1, x', tr1, R1, g1, h1, f1, h2⟩ := aiS R hxu hr1 (show prE Γ (acK n k x fun y => aaI (n + 1000) ks xs fun l => c (y :: l)) st tr = some po from h)
   obtain ⟨G2, st2, xs', tr2, R2, g2, h3, f2, h4⟩ := nilRows_aux (fun l hl => g1.reg l (hr2 l hl)) (g1.uL hxs hr2) R1 h2
   refine ⟨G2, st2, x' :: xs', tr2, R2, g1.trans g2, .cons _ _ _ _ (g2.avr h1 f1) h3, fun l hl => ?_, h4⟩
   simp only [AV.refsL, List.mem_append] at hl
   exact hl.elim (fun hl => g2.reg l (f1 l hl)) (f2 l)
def Gh.aaQ (G : Gh) (st : Sto) : Gh := G.fT fun k => ∃ r, blk G st (.rw r) = some k
theorem ai4 (R : Rel X G st a w) {r : Nat} {ks e by_ xs fz} (hr : st (.rw r) = .row ks e by_ xs fz) : ∀ g, rowBlk (G.rv r) = some g → (G.aaQ st).F g := by
 intro g hg
 obtain ⟨q1, q2, q3, q4, q5⟩ := R.rw r _ _ _ _ _ hr
 cases fz with
 | true => exact .inl (q5 rfl g hg)
 | false => exact .inr ⟨r, by simp [blk, hr, hg]⟩
theorem agt (R : Rel X G st a w) {x : AV} {u : Value} {c : AV → Pr} (hx : AVR G w x u) (h : prE Γ (aeC x c) st tr = some po) :
  ∃ x' tr', AVR (G.aaQ st) w x' u ∧ (∀ l ∈ x'.refs, l ∈ x.refs) ∧ prE Γ (c x') st tr' = some po := by
 have hle : GLe G (G.aaQ st) := .fT G _
 unfold aeC at h
 split at h
 ·rename_i r
  simp only [prE] at h
  split at h
  ·rename_i ks e by_ xs fz hr
   obtain ⟨q1, q2, q3, q4, q5⟩ := R.rw r _ _ _ _ _ hr
   cases hx
   exact ⟨_, _, .d ((q4.mono hle.F (fun _ _ => rfl) (fun _ _ => rfl)).data q3 (ai4 R hr)), by simp [AV.refs], h⟩
  ·exact (aY h).elim
 ·rename_i r lo n
  simp only [prE] at h
  split at h
  ·rename_i ks e by_ xs fz hr
   have hx' := hx
   cases hx with
   | win _ _ _ b a' n0 c0 c' hv hn hc' ha =>
    obtain ⟨q1, q2, q3, q4, q5⟩ := R.rw r _ _ _ _ _ hr
    obtain ⟨⟨base, cc, z1, z2, z3, z4⟩, z5⟩ := (w3 R hr hx').1
    have hs' : SlV (G.aaQ st).F w ks ((xs.drop lo).take n) (.slice a' n c') :=
     ⟨⟨base, cc, z1, z2, z3, fun ad j el i d k y1 y2 y3 y4 => by obtain ⟨u, hu, hd⟩ := z4 ad j el i d k y1 y2 y3 y4; exact ⟨u, hu, hd.mono hle.F (fun _ _ => rfl)⟩⟩, z5⟩
    refine ⟨_, _, .d (hs'.data q3 (fun b' n' c'' hb hne => ?_)), by simp [AV.refs], h⟩
    rw [hb] at hx'
    exact ai4 R hr _ (acR R hr hx' hne)
  ·exact (aY h).elim
 ·exact ⟨x, tr, hle.avr hx, fun l h => h, h⟩
theorem aek (R : Rel X G st a w) : ∀ {xs : List AV} {us : List Value} {c : List AV → Pr} {tr : Tr}, AVRs G w xs us → prE Γ (aer xs c) st tr = some po →
  ∃ xs' tr', AVRs (G.aaQ st) w xs' us ∧ (∀ l ∈ AV.refsL xs', l ∈ AV.refsL xs) ∧ prE Γ (c xs') st tr' = some po
 | [], us, c, tr, hx, h => by cases hx; exact ⟨[], tr, .nil, fun l h => h, h⟩
 | x :: xs, us, c, tr, hx, h => by
  cases hx with
  | cons _ u _ us hxu hxs =>
   obtain ⟨x', tr1, h1, f1, h2⟩ := agt R hxu (show prE Γ (aeC x fun y => aer xs fun l => c (y :: l)) st tr = some po from h)
   obtain ⟨xs', tr2, h3, f2, h4⟩ := aek R hxs h2
   refine ⟨x' :: xs', tr2, .cons _ _ _ _ h1 h3, fun l hl => ?_, h4⟩
   simp only [AV.refsL, List.mem_append] at hl ⊢
   exact hl.imp (f1 l) (f2 l)
theorem amj (R : Rel X G st a w) {x : AV} {u : Value} {c : AV → Pr} (hx : AVR G w x u) (h : prE Γ (aje x c) st tr = some po) :
  ∃ x' tr', AVR (G.aaQ st) w x' u ∧ (∀ l ∈ x'.refs, l ∈ x.refs) ∧ prE Γ (c x') st tr' = some po := by
 unfold aje at h
 split at h
 ·cases hx with
  | agg _ vs hcs =>
   obtain ⟨xs', tr1, h1, f1, h2⟩ := aek R hcs h
   exact ⟨_, tr1, .agg _ _ h1, by simpa [AV.refs] using f1, h2⟩
 ·exact agt R hx h
theorem adt (R : Rel X G st a w) : ∀ {xs : List AV} {us : List Value} {c : List AV → Pr} {tr : Tr}, AVRs G w xs us → prE Γ (acO xs c) st tr = some po →
  ∃ xs' tr', AVRs (G.aaQ st) w xs' us ∧ (∀ l ∈ AV.refsL xs', l ∈ AV.refsL xs) ∧ prE Γ (c xs') st tr' = some po
 | [], us, c, tr, hx, h => by cases hx; exact ⟨[], tr, .nil, fun l h => h, h⟩
 | x :: xs, us, c, tr, hx, h => by
  cases hx with
  | cons _ u _ us hxu hxs =>
   obtain ⟨x', tr1, h1, f1, h2⟩ := amj R hxu (show prE Γ (aje x fun y => acO xs fun l => c (y :: l)) st tr = some po from h)
   obtain ⟨xs', tr2, h3, f2, h4⟩ := adt R hxs h2
   refine ⟨x' :: xs', tr2, .cons _ _ _ _ h1 h3, fun l hl => ?_, h4⟩
   simp only [AV.refsL, List.mem_append] at hl ⊢
   exact hl.imp (f1 l) (f2 l)
end
end PX
