/- An evaluator of the program's Lean form that knows no memory, and the proof that what it tells of a call holds of that call: no statement of the program by itself; conditions: none beyond each theorem's own. -/
import Derived.Test.YthjloglncbnhfaaGreatDoorPXc
import Derived.Shelf.Spec.SlicesInsertGrow
import Derived.Shelf.SlicesE.Delete
set_option linter.unusedVariables false
set_option linter.unusedSimpArgs false
set_option linter.unusedVariables false
set_option linter.unusedSimpArgs false
namespace PX
open Go Go.Proofs Go.Shelf Go.RowKit Go.Lib
section
variable {P : Program} {ρ : Ren}
structure afv (P : Program) (ρ : Ren) (nm : String) (ei : TI) : Prop where
 mixed : P.follows .mixedOrders = true
 fI : P.funcs[ρ.f 22]? = some { Body2.n22 ρ with name := nm }
 fO : ∀ (a b : Value) (w : World), (callFunc (ρ.f 29) #[a, b]).run P w = ((Extern.SlicesOverlaps.overlaps #[ρ.t 24, ρ.t 24] #[ρ.t 4] #[a, b]).run P w).andThen fun v w' => .ok (.value v) w'
 t0 : P.underlying (ρ.t 0) = some (TypeDesc.tuple #[])
 a0 : ∀ w, (isAgg (ρ.t 0)).run P w = .ok false w
 z0 : ∀ w, (Go.sizeOf (ρ.t 0)).run P w = .ok 1 w
 v0 : ∀ w, (zeroValue (ρ.t 0)).run P w = .ok (Value.tuple #[]) w
 t3 : P.underlying (ρ.t 3) = some (TypeDesc.int IntKind.i64)
 a3 : ∀ w, (isAgg (ρ.t 3)).run P w = .ok false w
 z3 : ∀ w, (Go.sizeOf (ρ.t 3)).run P w = .ok 1 w
 v3 : ∀ w, (zeroValue (ρ.t 3)).run P w = .ok (Value.int IntKind.i64 0) w
 t4 : P.underlying (ρ.t 4) = some (TypeDesc.bool)
 a4 : ∀ w, (isAgg (ρ.t 4)).run P w = .ok false w
 z4 : ∀ w, (Go.sizeOf (ρ.t 4)).run P w = .ok 1 w
 v4 : ∀ w, (zeroValue (ρ.t 4)).run P w = .ok (Value.bool false) w
 t24 : P.underlying (ρ.t 24) = some (TypeDesc.slice (ρ.t 9))
 a24 : ∀ w, (isAgg (ρ.t 24)).run P w = .ok false w
 z24 : ∀ w, (Go.sizeOf (ρ.t 24)).run P w = .ok 1 w
 v24 : ∀ w, (zeroValue (ρ.t 24)).run P w = .ok (Value.slice none 0 0) w
 hT : TyOK P (ρ.t 9) ei
 k0 : 0 < ei.ks.length
 by0 : ei.bytes ≠ 0
theorem rN (w : World) (dT sT ty elem : TypeId) (g o dLen dCap : Nat) (a : Addr) (sLen sCap k m : Nat) (cur : Array Value) (t : TypeId) (cs : List Value)
  (hu : P.underlying dT = some (.slice elem)) (hz : ∀ w, (Go.sizeOf elem).run P w = .ok k w) (hm : Nat.min sLen dLen = m)
  (hg : w.heap[g]? = some (.cells cur t (0, 0))) (hn : cs.length = m * k)
  (hsrc : ∀ j v, cs[j]? = some v → w.cell? (a.add j) = some v) (hfit : o + cs.length ≤ cur.size) (h1 : ∀ v ∈ cs, v.oneCell' = true) :
  (Builtin.copy_ #[dT, sT] ty #[.slice (some ⟨g, o, none⟩) dLen dCap, .slice (some a) sLen sCap]).run P w =
   .ok (goInt m) (w.setRow g (cur.toList.take o ++ cs ++ cur.toList.drop (o + cs.length)).toArray) := by
 have hl := run_loadCells_list (P := P) w a cs hsrc
 have hst := run_storeCells_at P g o t cs 0 cur w hg (by simpa using hfit) h1
 simp only [Nat.add_zero] at hst
 simp [Builtin.copy_, run_underlying hu, Builtin.lenOf, Builtin.firstCells, hz, hm, ← hn, hl, hst]
theorem w4 {w : World} {g : Nat} {cur : Array Value} {t : TypeId} (hg : w.heap[g]? = some (.cells cur t (0, 0))) (j : Nat) : w.cell? ⟨g, j, none⟩ = cur[j]? := by
 rw [cell_of_row w g _ cur t (0, 0) hg]
theorem acv (w : World) (g : Nat) (a b : Array Value) : (w.setRow g a).setRow g b = w.setRow g b := by
 unfold World.setRow
 simp only [World.mk.injEq, true_and, and_true]
 apply Array.ext
 ·simp
 ·intro i h1 h2
  simp only [Array.getElem_modify]
  by_cases e : g = i
  ·simp only [e, if_true]
   cases w.heap[i]'(by simpa using h2) <;> rfl
  ·simp [e]
set_option maxHeartbeats 4000000 in
set_option maxRecDepth 100000 in
theorem ak4 {nm : String} {ei : TI} (L : afv P ρ nm ei) (k : Nat) (hk : ei.ks.length = k) (g n c i q m vc : Nat) (cur : Array Value) (t t' : TypeId) (vcur : Array Value) (vs : List Value) (w : World) (hi : i < n) (hm : 0 < m) (hroom : n + m ≤ c) (hc63 : c ≤ 9223372036854775807) (hvb : q ≠ g)
  (hg : w.heap[g]? = some (.cells cur t (0, 0))) (hcz : cur.size = c * k) (hq : w.heap[q]? = some (.cells vcur t' (0, 0))) (hvl : vs.length = m * k) (hvs : ∀ (j : Nat) (v : Value), vs[j]? = some v → vcur[j]? = some v)
  (h1c : ∀ v ∈ cur.toList.take (n * k), v.oneCell' = true) (h1v : ∀ v ∈ vs, v.oneCell' = true) :
  Calls P (ρ.f 22) #[.slice (some ⟨g, 0, none⟩) n c, .int .i64 i, .slice (some ⟨q, 0, none⟩) m vc] w fun e w' =>
   e = .returned (.slice (some ⟨g, 0, none⟩) (n + m) c) ∧ ∃ cur2 : List Value, w' = w.drew.setRow g ⟨cur2⟩ ∧ cur2.length = cur.size ∧
    cur2.take ((n + m) * k) = cur.toList.take (i * k) ++ vs ++ (cur.toList.take (n * k)).drop (i * k) := by
 have t0 := L.t0; have a0 := L.a0; have z0 := L.z0; have v0 := L.v0; have t3 := L.t3; have a3 := L.a3; have z3 := L.z3; have v3 := L.v3; have t4 := L.t4; have a4 := L.a4; have z4 := L.z4; have v4 := L.v4; have t24 := L.t24; have a24 := L.a24; have z24 := L.z24; have v24 := L.v24
 have u0 := run_underlying L.t0; have u3 := run_underlying L.t3; have u4 := run_underlying L.t4; have u24 := run_underlying L.t24
 have z9 : ∀ w, (Go.sizeOf (ρ.t 9)).run P w = .ok k w := fun w => by rw [← hk]; exact run_sizeOf L.hT
 have hz1 : ¬ ((m : Int) = 0) := by omega
 have hz2 : ¬ ((i : Int) = (n : Int)) := by omega
 have hov : ∀ lb cb, (callFunc (ρ.f 29) #[.slice (some ⟨q, 0, none⟩) m vc, .slice (some ⟨g, (i + m) * k, none⟩) lb cb]).run P w = .ok (.value (.bool false)) w := fun lb cb => by
  rw [L.fO]
  rw [Lib.run_overlaps_apart w (ρ.t 24) (ρ.t 4) (ρ.t 9) L.t24 k z9 ⟨q, 0, none⟩ ⟨g, (i + m) * k, none⟩ m vc lb cb hvb t' t vcur.size cur.size (by simp [World.shape?, hq]) (by simp [World.shape?, hg])
   (by rw [hcz]; exact Nat.mul_ne_zero (by omega) (by have := L.k0; omega)) (by simp [World.frozen?, hq]) (by simp [World.frozen?, hq])]
  rfl
 have mixed := L.mixed
 have hw1 : IntKind.i64.wrap ((i : Int) + (m : Int)) = (i : Int) + (m : Int) := by rw [IntKind.wrap_i64]; omega
 have hb1 : (0 : Int) ≤ (i : Int) + (m : Int) := by omega
 have hin : i ≤ n := by omega
 have htn : ((i : Int) + (m : Int)).toNat = i + m := by omega
 have hb2 : ¬ (c = i + m) := by omega
 have hb3 : (i : Int) ≤ (n : Int) + (m : Int) := by omega
 have hb4 : ¬ (c = i) := by omega
 have hmul1 : i * k + (n - i) * k = n * k := by rw [← Nat.add_mul]; congr 1; omega
 have hmul2 : (i + m) * k + (n - i) * k = (n + m) * k := by rw [← Nat.add_mul]; congr 1; omega
 have hmul3 : i * k + m * k = (i + m) * k := by rw [← Nat.add_mul]
 have hmul4 : (n + m) * k ≤ cur.size := by rw [hcz]; exact Nat.mul_le_mul_right _ hroom
 have hmul5 : n * k ≤ (n + m) * k := Nat.mul_le_mul_right _ (by omega)
 obtain ⟨cs1, hcs1⟩ : ∃ cs1, cs1 = (cur.toList.take (n * k)).drop (i * k) := ⟨_, rfl⟩
 have hcl1 : cs1.length = (n - i) * k := by rw [hcs1]; simp; omega
 obtain ⟨cur1, hcur1⟩ : ∃ cur1, cur1 = (cur.toList.take ((i + m) * k) ++ cs1 ++ cur.toList.drop ((i + m) * k + cs1.length)).toArray := ⟨_, rfl⟩
 have hcp1 : ∀ ty dc sc, (Builtin.copy_ #[(ρ.t 24), (ρ.t 24)] ty #[.slice (some ⟨g, (i + m) * k, none⟩) (n + m - (i + m)) dc, .slice (some ⟨g, i * k, none⟩) (n + m - i) sc]).run P w.drew = .ok (goInt ((n - i : Nat))) (w.drew.setRow g cur1) := fun ty dc sc => by
  rw [hcur1]
  refine rN w.drew _ _ ty (ρ.t 9) g _ _ dc ⟨g, i * k, none⟩ _ sc k (n - i) cur t cs1 L.t24 z9 (by simp only [Nat.min_def]; split <;> omega) hg hcl1 (fun j v hj => ?_) (by omega) (fun v hv => h1c v (by rw [hcs1] at hv; exact List.mem_of_mem_drop hv))
  rw [add_lit, show w.drew.cell? ⟨g, i * k + j, none⟩ = w.cell? ⟨g, i * k + j, none⟩ from rfl, w4 hg]
  rw [hcs1, List.getElem?_drop, List.getElem?_take] at hj
  split at hj
  ·simpa using hj
  ·cases hj
 have hh1 : (w.drew.setRow g cur1).heap[g]? = some (.cells cur1 t (0, 0)) := setRow_heap w.drew g cur _ t _ hg
 have hs1 : cur1.size = cur.size := by rw [hcur1]; simp; omega
 obtain ⟨cur2, hcur2⟩ : ∃ cur2, cur2 = cur1.toList.take (i * k) ++ vs ++ cur1.toList.drop (i * k + vs.length) := ⟨_, rfl⟩
 have hcp2 : ∀ (W : World), W.heap = (w.drew.setRow g cur1).heap → ∀ ty dc, (Builtin.copy_ #[(ρ.t 24), (ρ.t 24)] ty #[.slice (some ⟨g, i * k, none⟩) (n + m - i) dc, .slice (some ⟨q, 0, none⟩) m vc]).run P W = .ok (goInt ((m : Nat))) (W.setRow g ⟨cur2⟩) := fun W hW ty dc => by
  rw [hcur2]
  refine rN W _ _ ty (ρ.t 9) g _ _ dc ⟨q, 0, none⟩ _ vc k m cur1 t vs L.t24 z9 (by simp only [Nat.min_def]; split <;> omega) (by rw [hW]; exact hh1) hvl (fun j v hj => ?_) (by omega) h1v
  rw [add_lit, Nat.zero_add, w4 (cur := vcur) (t := t') (by rw [hW, setRow_other w.drew g q _ hvb]; exact hq)]
  exact hvs j v hj
 have X : ∃ cur2' : List Value, (w.drew.setRow g cur1).setRow g ⟨cur2⟩ = w.drew.setRow g ⟨cur2'⟩ ∧ cur2'.length = cur.size ∧
    cur2'.take ((n + m) * k) = cur.toList.take (i * k) ++ vs ++ (cur.toList.take (n * k)).drop (i * k) := by
  have e1 : cur1.toList.take (i * k) = cur.toList.take (i * k) := by
   rw [hcur1]
   show List.take (i * k) (_ ++ cs1 ++ _) = _
   rw [List.append_assoc, List.take_append_of_le_length (by simp; omega), List.take_take, Nat.min_eq_left (by omega)]
  have e2 : cur1.toList.drop (i * k + vs.length) = cs1 ++ cur.toList.drop ((i + m) * k + cs1.length) := by
   rw [hcur1]
   show List.drop _ (_ ++ cs1 ++ _) = _
   rw [List.append_assoc, List.drop_left' (by simp; omega)]
  refine ⟨cur2, acv _ _ _ _, ?_, ?_⟩
  ·rw [hcur2, e1, e2]; simp; omega
  ·rw [hcur2, e1, e2, ← List.append_assoc, List.take_left' (by simp; omega), hcs1]
 clear hcur2 hcur1 hcs1
 go_enter L.fI, Body2.n22_ntmps ρ
 go_wp2_with (simp only [hov])
 go_region_law_o (refine step_copy_runI rfl _ _ (ρ.t 24) (ρ.t 24) rfl _ _ (by simp [Act.eval, Act.put]) (by simp [Act.eval, Act.put]) (hcp1 _ _ _) ?_)
 go_wp2_with (at_builtin; refine wpList_copy_runI _ rfl _ _ (ρ.t 24) (ρ.t 24) rfl _ _ rfl rfl (hcp2 _ rfl _ _) ?_)
 go_ret
 exact ⟨rfl, X⟩
set_option maxHeartbeats 4000000 in
set_option maxRecDepth 100000 in
theorem alf {nm : String} {ei : TI} (L : afv P ρ nm ei) (k : Nat) (hk : ei.ks.length = k) (g n c i q m vc : Nat) (cur : Array Value) (t t' : TypeId) (vcur : Array Value) (vs : List Value) (w : World) (hi : i < n) (hm : 0 < m) (hnc : n ≤ c) (hroom : c < n + m) (hbig : (n + m) * ei.bytes ≤ 140737488355328)
  (hg : w.heap[g]? = some (.cells cur t (0, 0))) (hcz : cur.size = c * k) (hq : w.heap[q]? = some (.cells vcur t' (0, 0))) (hvl : vs.length = m * k) (hvs : ∀ (j : Nat) (v : Value), vs[j]? = some v → vcur[j]? = some v)
  (h1c : ∀ v ∈ cur.toList.take (n * k), v.oneCell' = true) (h1v : ∀ v ∈ vs, v.oneCell' = true) :
  Calls P (ρ.f 22) #[.slice (some ⟨g, 0, none⟩) n c, .int .i64 i, .slice (some ⟨q, 0, none⟩) m vc] w fun e w' =>
   e = .returned (.slice (some ⟨w.heap.size, 0, none⟩) (n + m) (grownCap w (n + m) c (ρ.t 9))) ∧ ∃ cur2 : List Value, w'.heap[w.heap.size]? = some (.cells ⟨cur2⟩ (ρ.t 9) (0, 0)) ∧ Ext w w' ∧ cur2.length = grownCap w (n + m) c (ρ.t 9) * k ∧
    cur2.take ((n + m) * k) = cur.toList.take (i * k) ++ vs ++ (cur.toList.take (n * k)).drop (i * k) := by
 have t0 := L.t0; have a0 := L.a0; have z0 := L.z0; have v0 := L.v0; have t3 := L.t3; have a3 := L.a3; have z3 := L.z3; have v3 := L.v3; have t4 := L.t4; have a4 := L.a4; have z4 := L.z4; have v4 := L.v4; have t24 := L.t24; have a24 := L.a24; have z24 := L.z24; have v24 := L.v24
 have u0 := run_underlying L.t0; have u3 := run_underlying L.t3; have u4 := run_underlying L.t4; have u24 := run_underlying L.t24
 have z9 : ∀ w, (Go.sizeOf (ρ.t 9)).run P w = .ok k w := fun w => by rw [← hk]; exact run_sizeOf L.hT
 have mixed := L.mixed
 have hk0 := L.k0
 have hby := L.by0
 obtain ⟨i0, hi0, hzs, hzb, z, hz0, hzc⟩ := L.hT.info
 have hz1 : ¬ ((m : Int) = 0) := by omega
 have hz2 : ¬ ((i : Int) = (n : Int)) := by omega
 have hz3 : (c : Int) < (n : Int) + (m : Int) := by omega
 have hgw : g < w.heap.size := (Array.getElem?_eq_some_iff.1 hg).1
 have hqw : q < w.heap.size := (Array.getElem?_eq_some_iff.1 hq).1
 have hkk : (n : Int) + (m : Int) - (i : Int) = ((n + m - i : Nat) : Int) := by omega
 have hik : i + (n + m - i) = n + m := by omega
 have hmul1 : i * k + (n - i) * k = n * k := by rw [← Nat.add_mul]; congr 1; omega
 have hmul2 : (i + m) * k + (n - i) * k = (n + m) * k := by rw [← Nat.add_mul]; congr 1; omega
 have hmul3 : i * k + m * k = (i + m) * k := by rw [← Nat.add_mul]
 have hmul4 : n * k ≤ cur.size := by rw [hcz]; exact Nat.mul_le_mul_right _ hnc
 have hmul6 : i * k + (n + m - i) * k = (n + m) * k := by rw [← Nat.add_mul]; congr 1
 have hold : (Builtin.firstCells i0.size i (.slice (some ⟨g, 0, none⟩) i c)).run P w.drew = .ok (cur.toList.take (i * k)).toArray w.drew := by
  rw [hzs, hk]
  refine run_firstCells_some w.drew k i ⟨g, 0, none⟩ i c _ (by simp; omega) (fun j v hj => ?_)
  rw [add_lit, Nat.zero_add, show w.drew.cell? ⟨g, j, none⟩ = w.cell? ⟨g, j, none⟩ from rfl, w4 hg]
  rw [List.getElem?_take] at hj
  split at hj
  ·simpa using hj
  ·cases hj
 have hsm : n + m ≤ 140737488355328 := Nat.le_trans (Nat.le_mul_of_pos_right _ (by omega)) hbig
 have hrz : ∀ ty, (Builtin.append_ #[(ρ.t 24), (ρ.t 3)] ty #[.slice (some ⟨g, 0, none⟩) i c, .int .i64 ((n : Int) + (m : Int) - (i : Int))]).run P w =
   .ok (.slice (some ⟨w.heap.size, 0, none⟩) (n + m) (grownCap w (n + m) c (ρ.t 9))) (w.drew.alloc (.cells ((cur.toList.take (i * k)).toArray ++ Builtin.zeroCells z.cells (n + m - i) ++ Builtin.zeroCells z.cells (grownCap w (n + m) c (ρ.t 9) - (n + m))) (ρ.t 9))) := fun ty => by
  have h := Lib.run_append_grow_zeros w (ρ.t 24) (ρ.t 3) ty (ρ.t 9) i0 z .i64 .i64 L.t24 L.t3 hi0 hz0 (some ⟨g, 0, none⟩) i c (cur.toList.take (i * k)) hold (n + m - i) (by omega) (by omega) (by omega) (by omega)
   (by rw [hzb]; exact Nat.le_trans (Nat.mul_le_mul_right _ (by omega : n + m - i ≤ n + m)) (by omega)) (by rw [hzb, hik]; exact growslice_fits hroom hbig)
  rw [hik] at h
  rw [hkk]
  exact h
 obtain ⟨G, hG⟩ : ∃ G, G = grownCap w (n + m) c (ρ.t 9) := ⟨_, rfl⟩
 obtain ⟨ROW, hROW⟩ : ∃ ROW : Array Value, ROW = (cur.toList.take (i * k)).toArray ++ Builtin.zeroCells z.cells (n + m - i) ++ Builtin.zeroCells z.cells (G - (n + m)) := ⟨_, rfl⟩
 rw [← hG] at hrz ⊢
 rw [← hROW] at hrz
 have hGn : n + m ≤ G := by rw [hG]; exact grownCap_ge w _ _ _
 have hG63 : G ≤ 9223372036854775807 := by
  have := grownCap_le_maxLen w (n + m) c (ρ.t 9) (by unfold maxLen; omega)
  rw [← hG] at this
  unfold maxLen at this
  omega
 have hzsz : z.cells.size = k := by rw [hzc]; simp [hk]
 have hRl : ROW.size = G * k := by
  rw [hROW]
  simp only [Array.size_append, List.size_toArray, size_zeroCells, hzsz, List.length_take, Array.length_toList]
  rw [Nat.min_eq_left (by omega), ← Nat.add_mul, ← Nat.add_mul]
  congr 1; omega
 have hmulG : (n + m) * k ≤ ROW.size := by rw [hRl]; exact Nat.mul_le_mul_right _ hGn
 have hRt : ROW.toList.take (i * k) = cur.toList.take (i * k) := by
  rw [hROW, Array.toList_append, Array.toList_append]
  rw [List.append_assoc, List.take_append_of_le_length (by simp; omega), List.take_take, Nat.min_self]
 obtain ⟨W1, hW1⟩ : ∃ W1, W1 = w.drew.alloc (.cells ROW (ρ.t 9)) := ⟨_, rfl⟩
 rw [← hW1] at hrz
 have hN : W1.heap[w.heap.size]? = some (.cells ROW (ρ.t 9) (0, 0)) := by rw [hW1]; exact heap_alloc_new w.drew _
 have hO : ∀ b, b < w.heap.size → W1.heap[b]? = w.heap[b]? := fun b hb => by rw [hW1]; exact (Ext.akg w _).keep b hb
 obtain ⟨A1, hA1⟩ : ∃ A1, A1 = (ROW.toList.take (i * k) ++ vs ++ ROW.toList.drop (i * k + vs.length)).toArray := ⟨_, rfl⟩
 have hA1s : A1.size = ROW.size := by rw [hA1]; simp; omega
 have hcpA : ∀ (W : World), W.heap = W1.heap → ∀ ty dc, (Builtin.copy_ #[(ρ.t 24), (ρ.t 24)] ty #[.slice (some ⟨w.heap.size, i * k, none⟩) (n + m - i) dc, .slice (some ⟨q, 0, none⟩) m vc]).run P W = .ok (goInt (m : Nat)) (W.setRow w.heap.size A1) := fun W hW ty dc => by
  rw [hA1]
  refine rN W _ _ ty (ρ.t 9) w.heap.size _ _ dc ⟨q, 0, none⟩ _ vc k m ROW (ρ.t 9) vs L.t24 z9 (by simp only [Nat.min_def]; split <;> omega) (by rw [hW]; exact hN) hvl (fun j v hj => ?_) (by omega) h1v
  rw [add_lit, Nat.zero_add, w4 (cur := vcur) (t := t') (by rw [hW, hO q hqw]; exact hq)]
  exact hvs j v hj
 obtain ⟨cs1, hcs1⟩ : ∃ cs1, cs1 = (cur.toList.take (n * k)).drop (i * k) := ⟨_, rfl⟩
 have hcl1 : cs1.length = (n - i) * k := by rw [hcs1]; simp; omega
 obtain ⟨A2, hA2⟩ : ∃ A2, A2 = (A1.toList.take ((i + m) * k) ++ cs1 ++ A1.toList.drop ((i + m) * k + cs1.length)) := ⟨_, rfl⟩
 have hNA : (W1.setRow w.heap.size A1).heap[w.heap.size]? = some (.cells A1 (ρ.t 9) (0, 0)) := setRow_heap W1 _ ROW _ _ _ hN
 have hcpB : ∀ (W : World), W.heap = (W1.setRow w.heap.size A1).heap → ∀ ty dc sc, (Builtin.copy_ #[(ρ.t 24), (ρ.t 24)] ty #[.slice (some ⟨w.heap.size, (i + m) * k, none⟩) (n + m - (i + m)) dc, .slice (some ⟨g, i * k, none⟩) (n - i) sc]).run P W = .ok (goInt (n - i : Nat)) (W.setRow w.heap.size ⟨A2⟩) := fun W hW ty dc sc => by
  rw [hA2]
  refine rN W _ _ ty (ρ.t 9) w.heap.size _ _ dc ⟨g, i * k, none⟩ _ sc k (n - i) A1 (ρ.t 9) cs1 L.t24 z9 (by simp only [Nat.min_def]; split <;> omega) (by rw [hW]; exact hNA) hcl1 (fun j v hj => ?_) (by omega) (fun v hv => h1c v (by rw [hcs1] at hv; exact List.mem_of_mem_drop hv))
  rw [add_lit, w4 (cur := cur) (t := t) (by rw [hW, setRow_other W1 _ g _ (by omega), hO g hgw]; exact hg)]
  rw [hcs1, List.getElem?_drop, List.getElem?_take] at hj
  split at hj
  ·simpa using hj
  ·cases hj
 have hX1 : A2.length = G * k := by rw [hA2]; simp; omega
 have hX2 : A2.take ((n + m) * k) = cur.toList.take (i * k) ++ vs ++ (cur.toList.take (n * k)).drop (i * k) := by
  have e1 : A1.toList.take ((i + m) * k) = cur.toList.take (i * k) ++ vs := by
   rw [hA1]
   show List.take _ (_ ++ vs ++ _) = _
   rw [List.take_left' (by simp; omega), hRt]
  rw [hA2, e1, List.take_left' (by simp; omega), hcs1]
 have hGi : ¬ (G = i) := by omega
 have hGim : ¬ (G = i + m) := by omega
 have hci : ¬ (c = i) := by omega
 have hE1 : ((w.alloc (.cells ROW (ρ.t 9))).drew).heap = W1.heap := by rw [hW1]; rfl
 have hE2 : (((w.alloc (.cells ROW (ρ.t 9))).drew.setRow w.heap.size A1).drew).heap = (W1.setRow w.heap.size A1).heap := by rw [hW1]; rfl
 have hE3 : (((w.alloc (.cells ROW (ρ.t 9))).setRow w.heap.size A1).drew).heap = (W1.setRow w.heap.size A1).heap := by rw [hW1]; rfl
 have hw1 : IntKind.i64.wrap ((i : Int) + (m : Int)) = (i : Int) + (m : Int) := by rw [IntKind.wrap_i64]; omega
 have hb1 : (0 : Int) ≤ (i : Int) + (m : Int) := by omega
 have hin : i ≤ n := by omega
 have htn : ((i : Int) + (m : Int)).toNat = i + m := by omega
 have hb3 : (i : Int) ≤ (n : Int) := by omega
 clear hkk hik hold hROW hG hRl hA1 hA2 hcs1 hzs hzb
 go_enter L.fI, Body2.n22_ntmps ρ
 go_wp2_with (first
  | (at_builtin; refine Lib.wpList_append_run _ rfl _ _ _ _ rfl _ _ rfl rfl _ _ (hrz _) ?_)
  | (at_builtin; refine wpList_copy_runI _ rfl _ _ (ρ.t 24) (ρ.t 24) rfl _ _ rfl rfl (hcpA _ hE1 _ _) ?_))
 go_region_law_o (refine step_copy_runI rfl _ _ (ρ.t 24) (ρ.t 24) rfl (.slice (some ⟨w.heap.size, (i + m) * k, none⟩) (n + m - (i + m)) (G - (i + m))) (.slice (some ⟨g, i * k, none⟩) (n - i) (c - i)) (by simp [Act.eval, Act.put]) (by simp [Act.eval, Act.put]) (hcpB _ hE2 (ρ.t 3) (G - (i + m)) (c - i)) ?_)
 go_wp2
 go_ret
 refine ⟨rfl, A2, setRow_heap _ _ A1 _ _ _ ?_, ?_, hX1, hX2⟩
 ·rw [hE2]; exact hNA
 ·subst hW1
  exact ⟨rfl, rfl, rfl, by simp, fun b hb => by rw [setRow_other _ _ b _ (by omega)]; exact (setRow_other _ _ b _ (by omega)).trans (hO b hb)⟩
theorem aeJ {F : Nat → Prop} {w : World} {ks : List CK} {e : TypeId} {xs : List (List D)} {v : Value} (h : RowZ F w ks e xs v) : ∃ b c, v = .slice b xs.length c := by
 obtain ⟨_, h⟩ := h
 rcases h with ⟨a, rfl, rfl⟩ | ⟨g, c, cur, rfl, _⟩
 ·exact ⟨a, 0, rfl⟩
 ·exact ⟨_, c, rfl⟩
set_option maxHeartbeats 4000000 in
set_option maxRecDepth 100000 in
theorem ann {nm : String} {ei : TI} (L : afv P ρ nm ei) (base : Option Addr) (n c q m vc : Nat) (w : World) (hm : 0 < m) (hnc : n ≤ c) (v' : Value) (w' : World)
  (hr : (Builtin.append_ #[ρ.t 24, ρ.t 24] (ρ.t 24) #[.slice base n c, .slice (some ⟨q, 0, none⟩) m vc]).run P w = .ok v' w') (hb : base = none → n = 0 ∧ c = 0) :
  Calls P (ρ.f 22) #[.slice base n c, .int .i64 n, .slice (some ⟨q, 0, none⟩) m vc] w fun e w2 => e = .returned v' ∧ w2 = w' := by
 have t0 := L.t0; have a0 := L.a0; have z0 := L.z0; have v0 := L.v0; have t3 := L.t3; have a3 := L.a3; have z3 := L.z3; have v3 := L.v3; have t4 := L.t4; have a4 := L.a4; have z4 := L.z4; have v4 := L.v4; have t24 := L.t24; have a24 := L.a24; have z24 := L.z24; have v24 := L.v24
 have u0 := run_underlying L.t0; have u3 := run_underlying L.t3; have u4 := run_underlying L.t4; have u24 := run_underlying L.t24
 have z9 : ∀ w, (Go.sizeOf (ρ.t 9)).run P w = .ok ei.ks.length w := fun w => run_sizeOf L.hT
 have mixed := L.mixed
 have hz1 : ¬ ((m : Int) = 0) := by omega
 go_enter L.fI, Body2.n22_ntmps ρ
 cases base with
 | none =>
  obtain ⟨h0, hc0⟩ := hb rfl
  subst h0; subst hc0
  go_wp2_with (at_builtin; refine Lib.wpList_append_run _ rfl _ _ _ _ rfl _ _ rfl rfl _ _ hr ?_)
  go_ret
  exact ⟨rfl, rfl⟩
 | some a =>
  obtain ⟨ab, ao, asp⟩ := a
  go_wp2_with (at_builtin; refine Lib.wpList_append_run _ rfl _ _ _ _ rfl _ _ rfl rfl _ _ hr ?_)
  all_goals (go_ret; exact ⟨rfl, rfl⟩)
theorem alr {nm : String} {ei : TI} (L : afv P ρ nm ei) {F : Nat → Prop} {w : World} {xs ys : List (List D)} {v u : Value} (hv : RowZ F w ei.ks (ρ.t 9) xs v) (hu : RowZ F w ei.ks (ρ.t 9) ys u) (hel : ρ.t 9 < ROWF) (hy : ys ≠ [])
  (hne : ∀ g, rowBlk v = some g → rowBlk u ≠ some g) (hF : ∀ k, F k → k < w.heap.size) (hvF : ∀ g, rowBlk v = some g → ¬ F g) {i : Nat} (hi : i ≤ xs.length) (hb : (xs.length + ys.length) * ei.bytes ≤ 140737488355328)
  (hdat : ei.ks.all CK.isData = true) :
  Calls P (ρ.f 22) #[v, .int .i64 i, u] w fun e w' => ∃ v', e = .returned v' ∧ RowZ F w' ei.ks (ρ.t 9) (xs.take i ++ ys ++ xs.drop i) v' ∧ lE (rowBlk v) w w' ∧
   ∀ g, rowBlk v' = some g → rowBlk v = some g ∨ (w.heap.size ≤ g ∧ g < w'.heap.size) := by
 have hym : 0 < ys.length := List.length_pos_iff.2 hy
 obtain ⟨hul, hu2⟩ := id hu
 rcases hu2 with ⟨b, _, h⟩ | ⟨q, vc, vcur, rfl, hvc0, hq, hlvc, hcvm, hvsz, hvcell⟩
 ·exact absurd h hy
 have hqb : rowBlk (.slice (some ⟨q, 0, none⟩) ys.length vc) = some q := by simp [rowBlk]; omega
 have hyf : Flat F w ei.ks ys (vcur.toList.take (ys.length * ei.ks.length)) := by
  have : Flat F w ei.ks ys vcur.toList := ⟨hul, fun j el i d k h1 h2 h3 => by obtain ⟨u, hu, hd⟩ := hvcell j el i d k h1 h2 h3; exact ⟨u, by simpa using hu, hd⟩⟩
  have := this.take ys.length
  rwa [List.take_length] at this
 have hyl : (vcur.toList.take (ys.length * ei.ks.length)).length = ys.length * ei.ks.length := by
  have : ys.length * ei.ks.length ≤ vcur.size := by rw [hvsz]; exact Nat.mul_le_mul_right _ hlvc
  simp; omega
 have hys : ∀ (j : Nat) (x : Value), (vcur.toList.take (ys.length * ei.ks.length))[j]? = some x → vcur[j]? = some x := fun j x hj => by
  rw [List.getElem?_take] at hj
  split at hj
  ·simpa using hj
  ·cases hj
 rcases Nat.lt_or_ge i xs.length with hlt | hge
 ·-- in the middle
  obtain ⟨hvl, hv2⟩ := hv
  rcases hv2 with ⟨b, _, rfl⟩ | ⟨g, c, cur, rfl, hc0, hh, hlc, hcm, hcs, hcell⟩
  ·simp at hlt
  have hgb : rowBlk (.slice (some ⟨g, 0, none⟩) xs.length c) = some g := by simp [rowBlk]; omega
  have hqg : q ≠ g := fun e => hne g hgb (by rw [hqb, e])
  have hxf : Flat F w ei.ks xs (cur.toList.take (xs.length * ei.ks.length)) := by
   have : Flat F w ei.ks xs cur.toList := ⟨hvl, fun j el i d k h1 h2 h3 => by obtain ⟨u, hu, hd⟩ := hcell j el i d k h1 h2 h3; exact ⟨u, by simpa using hu, hd⟩⟩
   have := this.take xs.length
   rwa [List.take_length] at this
  have hxl : (cur.toList.take (xs.length * ei.ks.length)).length = xs.length * ei.ks.length := by
   have : xs.length * ei.ks.length ≤ cur.size := by rw [hcs]; exact Nat.mul_le_mul_right _ hlc
   simp; omega
  have hmi : i * ei.ks.length ≤ xs.length * ei.ks.length := Nat.mul_le_mul_right _ hi
  have hfl : Flat F w ei.ks (xs.take i ++ ys ++ xs.drop i) (cur.toList.take (i * ei.ks.length) ++ vcur.toList.take (ys.length * ei.ks.length) ++ (cur.toList.take (xs.length * ei.ks.length)).drop (i * ei.ks.length)) := by
   have h1 := hxf.take i
   rw [List.take_take, Nat.min_eq_left hmi] at h1
   refine (h1.append hyf ?_).append (hxf.drop i) ?_
   ·simp at hxl ⊢
    rw [Nat.min_eq_left hi, Nat.min_eq_left (by omega)]
   ·simp at hxl hyl ⊢
    rw [hyl, Nat.min_eq_left hi, Nat.min_eq_left (by omega), Nat.add_mul]
  have hln : (xs.take i ++ ys ++ xs.drop i).length = xs.length + ys.length := by simp; omega
  have fin : ∀ (w' : World) (b : Nat) (c' : Nat) (cur2 : List Value), w'.heap[b]? = some (.cells ⟨cur2⟩ (ρ.t 9) (0, 0)) → xs.length + ys.length ≤ c' → c' ≤ maxLen → cur2.length = c' * ei.ks.length → lW F w w' →
    cur2.take ((xs.length + ys.length) * ei.ks.length) = cur.toList.take (i * ei.ks.length) ++ vcur.toList.take (ys.length * ei.ks.length) ++ (cur.toList.take (xs.length * ei.ks.length)).drop (i * ei.ks.length) →
    RowZ F w' ei.ks (ρ.t 9) (xs.take i ++ ys ++ xs.drop i) (.slice (some ⟨b, 0, none⟩) (xs.length + ys.length) c') := by
   intro w' b c' cur2 hb' hc' hcm' hl' hs' ht'
   refine ⟨hfl.1, .inr ⟨b, c', ⟨cur2⟩, by rw [hln], by omega, hb', by rw [hln]; exact hc', hcm', by simpa using hl', fun j el p d kk h1 h2 h3 => ?_⟩⟩
   rw [← ht'] at hfl
   obtain ⟨u, hu, hd⟩ := hfl.2 j el p d kk h1 h2 h3
   refine ⟨u, ?_, hd.mono (fun _ h => h) hs'⟩
   rw [List.getElem?_take] at hu
   split at hu
   ·simpa using hu
   ·cases hu
  have h63 : maxLen ≤ 9223372036854775807 := by unfold maxLen; omega
  by_cases hroom : xs.length + ys.length ≤ c
  ·refine (ak4 L ei.ks.length rfl g xs.length c i q ys.length vc cur (ρ.t 9) (ρ.t 9) vcur _ w hlt hym hroom (Nat.le_trans hcm h63) hqg hh hcs hq hyl hys (hxf.one L.k0 hxl) (hyf.one L.k0 hyl)).mono ?_
   rintro e w' ⟨rfl, cur2, rfl, hl2, ht2⟩
   have hgF : ¬ F g := hvF g hgb
   refine ⟨_, rfl, fin _ g c cur2 (setRow_heap w.drew g cur _ _ _ hh) hroom hcm (by rw [hl2, hcs]) (fun b hb' => setRow_other w.drew g b _ (fun e => by subst e; exact hgF hb')) ht2, ⟨rfl, rfl, rfl, by simp, fun b hb' hn => setRow_other w.drew g b _ (fun e => hn (by rw [hgb, e]))⟩, fun b hb' => .inl ?_⟩
   simp [rowBlk] at hb'
   rw [hgb, hb'.2]
  ·refine (alf L ei.ks.length rfl g xs.length c i q ys.length vc cur (ρ.t 9) (ρ.t 9) vcur _ w hlt hym hlc (by omega) hb hh hcs hq hyl hys (hxf.one L.k0 hxl) (hyf.one L.k0 hyl)).mono ?_
   rintro e w' ⟨rfl, cur2, hh2, hx, hl2, ht2⟩
   have hsm : xs.length + ys.length ≤ 140737488355328 := Nat.le_trans (Nat.le_mul_of_pos_right _ (by have := L.by0; omega)) hb
   have hg0 := (Array.getElem?_eq_some_iff.1 hh2).1
   refine ⟨_, rfl, fin _ _ _ cur2 hh2 (grownCap_ge w _ _ _) (grownCap_le_maxLen w _ _ _ (by simp only [maxLen]; omega)) hl2 (fun b hb' => hx.keep b (hF b hb')) ht2, hx.but _, fun b hb' => .inr ?_⟩
   simp [rowBlk] at hb'
   rw [← hb'.2]
   exact ⟨Nat.le_refl _, hg0⟩
 ·-- at the end
  have hii : i = xs.length := by omega
  subst hii
  obtain ⟨b, c, hveq⟩ := aeJ hv
  have hsl : SlV F w ei.ks ys (.slice (some ⟨q, 0, none⟩) ys.length vc) := hu.o.slV
  obtain ⟨base, cc, news, he, hl, hf, hfc⟩ := hsl.news (P := P) L.k0
  obtain ⟨v', w', hr, hv', hx, hblk⟩ := aaW (P := P) (ty := ρ.t 24) L.t24 L.t24 (.inr ⟨_, rfl⟩) L.hT L.k0 (hv.toV hel) hel (.inl rfl) ⟨fun w' => by simp [Builtin.lenOf, pure], hf, hl, fun n hn w' hw' => hfc n _ hn rfl w' hw'⟩ L.by0 hb hF hvF
  rw [hveq] at hr
  replace hv' := hv'.z hel
  have hnc : xs.length ≤ c ∧ (b = none → xs.length = 0 ∧ c = 0) := by
   obtain ⟨_, h⟩ := hv
   rcases h with ⟨a, h, hx⟩ | ⟨g, c2, cur, h, _, _, h4, _⟩
   ·rw [hveq] at h; injection h with e1 e2 e3; exact ⟨by omega, fun _ => ⟨e2, e3⟩⟩
   ·rw [hveq] at h; injection h with e1 e2 e3; exact ⟨by omega, fun e => by rw [e] at e1; cases e1⟩
  rw [hveq]
  refine (ann L b xs.length c q ys.length vc w hym hnc.1 v' w' hr hnc.2).mono ?_
  rintro e w2 ⟨rfl, rfl⟩
  rw [hveq] at hx hblk
  refine ⟨v', rfl, by simpa using hv', hx, hblk⟩
end
end PX
set_option linter.unusedVariables false
set_option linter.unusedSimpArgs false
namespace PX
open Go Go.Proofs Go.Shelf Go.RowKit Go.Lib
section
variable {P : Program} {ρ : Ren}
structure afO (P : Program) (ρ : Ren) (nm : String) (ei : TI) : Prop where
 mixed : P.follows .mixedOrders = true
 fD : P.funcs[ρ.f 45]? = some { SlBodyN.n45 ρ with name := nm }
 t0 : P.underlying (ρ.t 0) = some (TypeDesc.tuple #[])
 a0 : ∀ w, (isAgg (ρ.t 0)).run P w = .ok false w
 z0 : ∀ w, (Go.sizeOf (ρ.t 0)).run P w = .ok 1 w
 v0 : ∀ w, (zeroValue (ρ.t 0)).run P w = .ok (Value.tuple #[]) w
 t3 : P.underlying (ρ.t 3) = some (TypeDesc.int IntKind.i64)
 a3 : ∀ w, (isAgg (ρ.t 3)).run P w = .ok false w
 z3 : ∀ w, (Go.sizeOf (ρ.t 3)).run P w = .ok 1 w
 v3 : ∀ w, (zeroValue (ρ.t 3)).run P w = .ok (Value.int IntKind.i64 0) w
 t4 : P.underlying (ρ.t 4) = some (TypeDesc.bool)
 a4 : ∀ w, (isAgg (ρ.t 4)).run P w = .ok false w
 z4 : ∀ w, (Go.sizeOf (ρ.t 4)).run P w = .ok 1 w
 v4 : ∀ w, (zeroValue (ρ.t 4)).run P w = .ok (Value.bool false) w
 t22 : P.underlying (ρ.t 22) = some (TypeDesc.slice (ρ.t 23))
 a22 : ∀ w, (isAgg (ρ.t 22)).run P w = .ok false w
 z22 : ∀ w, (Go.sizeOf (ρ.t 22)).run P w = .ok 1 w
 v22 : ∀ w, (zeroValue (ρ.t 22)).run P w = .ok (Value.slice none 0 0) w
 hT : TyOK P (ρ.t 23) ei
 k0 : 0 < ei.ks.length
theorem adN {ops : Array Oper} {o : Oper} {a : Act} {w : World} {K : Act → World → Prop} {Q : Exit → Act → World → Prop} {E : Prop}
  (hg : o.guard = none) (d x : Operand) (dT sT : TypeId) (hop : o.op = Op.call { callee := Callee.builtin Builtin.append, args := #[d, x], argTypes := #[dT, sT] })
  (v u : Value) (hd : a.eval d = v) (hx : a.eval x = u) {v' : Value} {w' : World} (hr : (Builtin.append_ #[dT, sT] o.type #[v, u]).run P w = .ok v' w') (hK : K (a.put o.dst v') w') :
  if Region.wanted o (yielded ops a.tmps) = true then Oper.wp P o a w K Q else E := by
 have hw : Region.wanted o (yielded ops a.tmps) = true := by simp [Region.wanted, hg]
 rw [if_pos hw]
 unfold Oper.wp
 simp [execOp, hop, resolve, invoke, builtin, hd, hx, hr, Result.andThen]
 exact hK
theorem ak6 (k : CK) : k.zeroV.oneCell' = true := by cases k <;> rfl
theorem agO {z : Array Value} {n : Nat} {v : Value} (h : v ∈ (Builtin.zeroCells z n).toList) (h1 : ∀ x ∈ z.toList, x.oneCell' = true) : v.oneCell' = true := by
 simp only [Builtin.zeroCells, Array.toList_map, List.mem_map, Array.toList_range, List.mem_range] at h
 obtain ⟨i, hi, rfl⟩ := h
 have hz : 0 < z.size := by
  rcases Nat.eq_zero_or_pos z.size with e | e
  ·rw [e] at hi; simp at hi
  ·exact e
 have hm : i % z.size < z.size := Nat.mod_lt _ hz
 rw [getElem!_pos z _ hm]
 exact h1 _ (by simp)
theorem afW (w : World) (t e ty : TypeId) (z : Value) (ht : P.underlying t = some (.slice e)) (hv : ∀ w, (zeroValue e).run P w = .ok z w) (h1 : ∀ x ∈ z.cells.toList, x.oneCell' = true) (g o n c : Nat) (hn : 0 < n)
  (cur : Array Value) (t' : TypeId) (hg : w.heap[g]? = some (.cells cur t' (0, 0))) (hfit : o + n * z.cells.size ≤ cur.size) :
  (Builtin.clear_ #[t] ty #[.slice (some ⟨g, o, none⟩) n c]).run P w = .ok (.tuple #[]) (w.setRow g (cur.toList.take o ++ (Builtin.zeroCells z.cells n).toList ++ cur.toList.drop (o + n * z.cells.size)).toArray) := by
 have hl : (Builtin.zeroCells z.cells n).toList.length = n * z.cells.size := by simp [size_zeroCells]
 have hst := run_storeCells_at P g o t' (Builtin.zeroCells z.cells n).toList 0 cur w hg (by rw [hl]; simpa using hfit) (fun v hv => agO hv h1)
 simp only [Nat.add_zero, hl] at hst
 obtain ⟨m, rfl⟩ : ∃ m, n = m + 1 := ⟨n - 1, by omega⟩
 simp [Builtin.clear_, run_underlying ht, hv, hst]
set_option maxHeartbeats 4000000 in
set_option maxRecDepth 1000000 in
theorem al1 {nm : String} {ei : TI} (L : afO P ρ nm ei) (b : Option Addr) (n c i : Nat) (w : World) (hin : i ≤ n) (hnc : n ≤ c) (hc63 : c ≤ 9223372036854775807) (hb : b = none → c = 0) :
  Calls P (ρ.f 45) #[.slice b n c, .int .i64 i, .int .i64 i] w fun e w' => e = .returned (.slice b n c) ∧ w' = w := by
 have t0 := L.t0; have a0 := L.a0; have z0 := L.z0; have v0 := L.v0; have t3 := L.t3; have a3 := L.a3; have z3 := L.z3; have v3 := L.v3; have t4 := L.t4; have a4 := L.a4; have z4 := L.z4; have v4 := L.v4; have t22 := L.t22; have a22 := L.a22; have z22 := L.z22; have v22 := L.v22
 have z23 : ∀ w, (Go.sizeOf (ρ.t 23)).run P w = .ok ei.ks.length w := fun w => run_sizeOf L.hT
 have mixed := L.mixed
 go_enter L.fD, SlBodyN.n45_ntmps ρ
 cases b with
 | none =>
  have hc0 := hb rfl
  subst hc0
  go_wp2
  all_goals (go_ret; exact ⟨rfl, rfl⟩)
 | some a =>
  obtain ⟨ab, ao, asp⟩ := a
  go_wp2
  all_goals (go_ret; exact ⟨rfl, rfl⟩)
set_option maxHeartbeats 4000000 in
set_option maxRecDepth 1000000 in
theorem am9 {nm : String} {ei : TI} (L : afO P ρ nm ei) (k : Nat) (hk : ei.ks.length = k) (g n c i j : Nat) (cur : Array Value) (t : TypeId) (w : World) (hij : i < j) (hj : j ≤ n) (hnc : n ≤ c) (hc63 : c ≤ 9223372036854775807)
  (hg : w.heap[g]? = some (.cells cur t (0, 0))) (hcz : cur.size = c * k) (h1c : ∀ v ∈ cur.toList.take (n * k), v.oneCell' = true) :
  Calls P (ρ.f 45) #[.slice (some ⟨g, 0, none⟩) n c, .int .i64 i, .int .i64 j] w fun e w' =>
   e = .returned (.slice (some ⟨g, 0, none⟩) (n - (j - i)) c) ∧ ∃ cur2 : List Value, w' = w.drew.setRow g ⟨cur2⟩ ∧ cur2.length = cur.size ∧
    cur2.take ((n - (j - i)) * k) = cur.toList.take (i * k) ++ (cur.toList.take (n * k)).drop (j * k) := by
 have t0 := L.t0; have a0 := L.a0; have z0 := L.z0; have v0 := L.v0; have t3 := L.t3; have a3 := L.a3; have z3 := L.z3; have v3 := L.v3; have t4 := L.t4; have a4 := L.a4; have z4 := L.z4; have v4 := L.v4; have t22 := L.t22; have a22 := L.a22; have z22 := L.z22; have v22 := L.v22
 have u22 := run_underlying L.t22
 have z23 : ∀ w, (Go.sizeOf (ρ.t 23)).run P w = .ok k w := fun w => by rw [← hk]; exact run_sizeOf L.hT
 have mixed := L.mixed
 have hk0 := L.k0
 obtain ⟨i0, hi0, hzs, hzb, z, hz0, hzc⟩ := L.hT.info
 have v23 : ∀ w, (zeroValue (ρ.t 23)).run P w = .ok z w := fun w => by simp [zeroValue, typeInfo, hi0, hz0]
 have hzsz : z.cells.size = k := by rw [hzc]; simp [hk]
 have hz1 : ∀ x ∈ z.cells.toList, x.oneCell' = true := by
  intro x hx
  rw [hzc] at hx
  obtain ⟨q, _, rfl⟩ := List.mem_map.1 hx
  exact ak6 q
 have hm1 : j * k + (n - j) * k = n * k := by rw [← Nat.add_mul]; congr 1; omega
 have hm2 : i * k + (n - j) * k = (i + (n - j)) * k := by rw [← Nat.add_mul]
 have hm3 : (i + (n - j)) * k + (n - (i + (n - j))) * k = n * k := by rw [← Nat.add_mul]; congr 1; omega
 have hm4 : n * k ≤ cur.size := by rw [hcz]; exact Nat.mul_le_mul_right _ hnc
 have hm5 : i * k ≤ n * k := Nat.mul_le_mul_right _ (by omega)
 obtain ⟨news, hnews⟩ : ∃ news, news = (cur.toList.take (n * k)).drop (j * k) := ⟨_, rfl⟩
 have hnl : news.length = (n - j) * k := by rw [hnews]; simp; omega
 obtain ⟨A, hA, hsrc⟩ : ∃ A : Addr, (if c = j then some (⟨g, 0, none⟩ : Addr) else some ⟨g, j * k, none⟩) = some A ∧ Hid (∀ t u, news[t]? = some u → w.drew.cell? (A.add t) = some u) := by
  by_cases h : c = j
  ·refine ⟨⟨g, 0, none⟩, by simp [h], fun t u hu => ?_⟩
   have h0 : news.length = 0 := by rw [hnl, show n - j = 0 by omega, Nat.zero_mul]
   rw [List.length_eq_zero_iff.1 h0] at hu
   simp at hu
  ·refine ⟨⟨g, j * k, none⟩, by simp [h], fun q u hu => ?_⟩
   rw [add_lit, show w.drew.cell? ⟨g, j * k + q, none⟩ = w.cell? ⟨g, j * k + q, none⟩ from rfl, w4 hg]
   rw [hnews, List.getElem?_drop, List.getElem?_take] at hu
   split at hu
   ·simpa using hu
   ·cases hu
 obtain ⟨cur1, hcur1⟩ : ∃ cur1, cur1 = (cur.toList.take (i * k) ++ news ++ cur.toList.drop (i * k + news.length)).toArray := ⟨_, rfl⟩
 have hs1 : cur1.size = cur.size := by rw [hcur1]; simp; omega
 have hap : Hid (∀ ty, (Builtin.append_ #[ρ.t 22, ρ.t 22] ty #[.slice (some ⟨g, 0, none⟩) i c, .slice (some A) (n - j) (c - j)]).run P w.drew = .ok (.slice (some ⟨g, 0, none⟩) (i + (n - j)) c) (w.drew.setRow g cur1)) := fun ty => by
  rw [hcur1]
  have hst := run_storeCells_at P g (i * k) t news 0 cur w.drew hg (by omega) (fun v hv => h1c v (by rw [hnews] at hv; exact List.mem_of_mem_drop hv))
  simp only [Nat.add_zero] at hst
  refine zY (P := P) (i := i0) (news := news) L.t22 L.t22 (.inr ⟨_, rfl⟩) hi0 (fun w' => by simp [Builtin.lenOf, pure]) ?_ (by omega) (fun ad had => ?_) (fun h => by cases h)
  ·rw [hzs, hk]
   exact run_firstCells_some w.drew k (n - j) A (n - j) (c - j) news hnl (hsrc.out)
  ·injection had with had
   subst had
   rw [add_lit, Nat.zero_add, hzs, hk]
   exact hst
 have hh1 : (w.drew.setRow g cur1).heap[g]? = some (.cells cur1 t (0, 0)) := setRow_heap w.drew g cur _ t _ hg
 obtain ⟨cur2, hcur2⟩ : ∃ cur2, cur2 = (cur1.toList.take ((i + (n - j)) * k) ++ (Builtin.zeroCells z.cells (n - (i + (n - j)))).toList ++ cur1.toList.drop ((i + (n - j)) * k + (n - (i + (n - j))) * k)) := ⟨_, rfl⟩
 have hcl : ∀ ty, (Builtin.clear_ #[ρ.t 22] ty #[.slice (some ⟨g, (i + (n - j)) * k, none⟩) (n - (i + (n - j))) (c - (i + (n - j)))]).run P (w.drew.setRow g cur1) = .ok (.tuple #[]) ((w.drew.setRow g cur1).setRow g ⟨cur2⟩) := fun ty => by
  have := afW (P := P) (w.drew.setRow g cur1) (ρ.t 22) (ρ.t 23) ty z L.t22 v23 hz1 g ((i + (n - j)) * k) (n - (i + (n - j))) (c - (i + (n - j))) (by omega) cur1 t hh1 (by rw [hzsz]; omega)
  rw [hzsz] at this
  rw [hcur2]
  exact this
 have X : ∃ cur2' : List Value, (w.drew.setRow g cur1).setRow g ⟨cur2⟩ = w.drew.setRow g ⟨cur2'⟩ ∧ cur2'.length = cur.size ∧
    cur2'.take ((i + (n - j)) * k) = cur.toList.take (i * k) ++ (cur.toList.take (n * k)).drop (j * k) := by
  have e1 : cur1.toList.take ((i + (n - j)) * k) = cur.toList.take (i * k) ++ news := by
   rw [hcur1]
   show List.take _ (_ ++ news ++ _) = _
   rw [List.take_left' (by simp; omega)]
  refine ⟨cur2, acv _ _ _ _, ?_, ?_⟩
  ·rw [hcur2, e1]; simp [size_zeroCells, hzsz]; omega
  ·rw [hcur2, e1, List.append_assoc, List.take_left' (by simp; omega), hnews]
 have hen : n - (j - i) = i + (n - j) := by omega
 rw [hen]
 have hic : i ≤ c := by omega
 have hjc : j ≤ c := by omega
 have hXX : Hid (∃ cur2' : List Value, (w.drew.setRow g cur1).setRow g ⟨cur2⟩ = w.drew.setRow g ⟨cur2'⟩ ∧ cur2'.length = cur.size ∧
    cur2'.take ((i + (n - j)) * k) = cur.toList.take (i * k) ++ (cur.toList.take (n * k)).drop (j * k)) := X
 clear hcur1 hcur2 hnews X hh1
 go_enter L.fD, SlBodyN.n45_ntmps ρ
 go_wp2_with fail
 go_region_law_o (refine adN rfl (.tmp 22) (.tmp 25) (ρ.t 22) (ρ.t 22) rfl (.slice (some ⟨g, 0, none⟩) i c) (.slice (some A) (n - j) (c - j)) (by simp [Act.eval, Act.put]) (by simp [Act.eval, Act.put]) (hap.out _) ?_)
 go_wp2
 go_ret
 exact ⟨rfl, hXX.out⟩
theorem alG {nm : String} {ei : TI} (L : afO P ρ nm ei) {F : Nat → Prop} {w : World} {xs : List (List D)} {v : Value} (hv : RowZ F w ei.ks (ρ.t 23) xs v) (hvF : ∀ g, rowBlk v = some g → ¬ F g) {i j : Nat} (hij : i ≤ j) (hj : j ≤ xs.length) :
  Calls P (ρ.f 45) #[v, .int .i64 i, .int .i64 j] w fun e w' => ∃ v', e = .returned v' ∧ RowZ F w' ei.ks (ρ.t 23) (xs.take i ++ xs.drop j) v' ∧ lE (rowBlk v) w w' ∧
   ∀ g, rowBlk v' = some g → rowBlk v = some g ∨ (w.heap.size ≤ g ∧ g < w'.heap.size) := by
 have h63 : maxLen ≤ 9223372036854775807 := by unfold maxLen; omega
 rcases Nat.lt_or_ge i j with hlt | hge
 ·obtain ⟨hvl, hv2⟩ := hv
  rcases hv2 with ⟨b, _, rfl⟩ | ⟨g, c, cur, rfl, hc0, hh, hlc, hcm, hcs, hcell⟩
  ·simp at hj; omega
  have hgb : rowBlk (.slice (some ⟨g, 0, none⟩) xs.length c) = some g := by simp [rowBlk]; omega
  have hxf : Flat F w ei.ks xs (cur.toList.take (xs.length * ei.ks.length)) := by
   have : Flat F w ei.ks xs cur.toList := ⟨hvl, fun j el i d k h1 h2 h3 => by obtain ⟨u, hu, hd⟩ := hcell j el i d k h1 h2 h3; exact ⟨u, by simpa using hu, hd⟩⟩
   have := this.take xs.length
   rwa [List.take_length] at this
  have hxl : (cur.toList.take (xs.length * ei.ks.length)).length = xs.length * ei.ks.length := by
   have : xs.length * ei.ks.length ≤ cur.size := by rw [hcs]; exact Nat.mul_le_mul_right _ hlc
   simp; omega
  have hmi : i * ei.ks.length ≤ xs.length * ei.ks.length := Nat.mul_le_mul_right _ (by omega)
  have hfl : Flat F w ei.ks (xs.take i ++ xs.drop j) (cur.toList.take (i * ei.ks.length) ++ (cur.toList.take (xs.length * ei.ks.length)).drop (j * ei.ks.length)) := by
   have h1 := hxf.take i
   rw [List.take_take, Nat.min_eq_left hmi] at h1
   refine h1.append (hxf.drop j) ?_
   simp at hxl ⊢
   rw [Nat.min_eq_left (by omega), Nat.min_eq_left (by omega)]
  have hln : (xs.take i ++ xs.drop j).length = xs.length - (j - i) := by simp; omega
  refine (am9 L ei.ks.length rfl g xs.length c i j cur (ρ.t 23) w hlt hj hlc (Nat.le_trans hcm h63) hh hcs (hxf.one L.k0 hxl)).mono ?_
  rintro e w' ⟨rfl, cur2, rfl, hl2, ht2⟩
  have hgF : ¬ F g := hvF g hgb
  refine ⟨_, rfl, ⟨hfl.1, .inr ⟨g, c, ⟨cur2⟩, by rw [hln], hc0, setRow_heap w.drew g cur _ _ _ hh, by rw [hln]; omega, hcm, by simpa [hcs] using hl2, fun q el p d kk h1 h2 h3 => ?_⟩⟩,
   ⟨rfl, rfl, rfl, by simp, fun b hb' hn => setRow_other w.drew g b _ (fun e => hn (by rw [hgb, e]))⟩, fun b hb' => .inl ?_⟩
  ·rw [← ht2] at hfl
   obtain ⟨u, hu, hd⟩ := hfl.2 q el p d kk h1 h2 h3
   have hs : lW F w (w.drew.setRow g ⟨cur2⟩) := fun b hb' => setRow_other w.drew g b _ (fun e => by subst e; exact hgF hb')
   refine ⟨u, ?_, hd.mono (fun _ h => h) hs⟩
   rw [List.getElem?_take] at hu
   split at hu
   ·simpa using hu
   ·cases hu
  ·simp [rowBlk] at hb'
   rw [hgb, hb'.2]
 ·have : i = j := by omega
  subst this
  obtain ⟨b, c, hveq⟩ := aeJ hv
  have hnc : xs.length ≤ c ∧ c ≤ maxLen ∧ (b = none → c = 0) := by
   obtain ⟨_, h⟩ := hv
   rcases h with ⟨a, h, hx⟩ | ⟨g, c2, cur, h, _, _, h4, h5, _⟩
   ·rw [hveq] at h; injection h with e1 e2 e3; exact ⟨by omega, by rw [e3]; exact Nat.zero_le _, fun _ => e3⟩
   ·rw [hveq] at h; injection h with e1 e2 e3; exact ⟨by omega, by omega, fun e => by rw [e] at e1; cases e1⟩
  rw [hveq]
  refine (al1 L b xs.length c i w hj hnc.1 (Nat.le_trans hnc.2.1 h63) hnc.2.2).mono ?_
  rintro e w' ⟨rfl, rfl⟩
  refine ⟨_, rfl, ?_, ⟨rfl, rfl, rfl, Nat.le_refl _, fun _ _ _ => rfl⟩, fun g hg => .inl hg⟩
  rw [List.take_append_drop, ← hveq]
  exact hv
end
end PX
set_option linter.unusedVariables false
set_option linter.unusedSimpArgs false
namespace PX
open Go Go.Shelf
def afJ (ks : List CK) (e : TypeId) (b : Nat) : List AV → List Bx → List Rw → Option Out
 | [.row p, .d (.int .i64 i), .d (.int .i64 j)], [], [x] =>
  if Nat.beq p 2000000000 && fL ks x.ks && Nat.beq e x.e && Nat.beq b x.bytes && decide (0 ≤ i) && decide (i ≤ j) && decide (j ≤ x.xs.length) && Nat.blt e ROWF then
   some (.ret [.row 0] [] [⟨ks, e, b, x.xs.take i.toNat ++ x.xs.drop j.toNat⟩]) else none
 | _, _, _ => none
section
variable {P : Program} {E : Env} {X : Ctx} {G : Gh} {st : Sto} {a : Act} {w : World}
theorem Rel.only (R : Rel X G st a w) {ks e by_ xs} (h : st (.rw 0) = .row ks e by_ xs false) (lb : Nat → Nat) :
  Rel { X with nt := 0, lb := lb, df := [] } G (Sto.nil.upd (.rw 0) (.row ks e by_ xs false)) act0 w := by
 have key : ∀ l, l ≠ .rw 0 → (Sto.nil.upd (.rw 0) (.row ks e by_ xs false)) l = .none := fun l hl => by rw [aP _ _ (Ne.symm hl)]; rfl
 have kb : ∀ l k, blk G (Sto.nil.upd (.rw 0) (.row ks e by_ xs false)) l = some k → l = .rw 0 ∧ rowBlk (G.rv 0) = some k := by
  intro l k hl
  by_cases e' : l = .rw 0
  ·subst e'; simp [blk] at hl; exact ⟨rfl, hl⟩
  ·cases l <;> simp only [blk] at hl <;> first | (rw [key _ e'] at hl; cases hl; done) | (cases hl; done)
 have B := R.base
 refine ⟨⟨B.os, B.tape, B.output, B.size, B.keep, B.F0, B.Flt, B.Fnew⟩, rfl, rfl, ?_, ?_, ?_, ?_, ?_, ?_, ?_, ?_, R.rv1, ?_⟩
 ·intro i v hv; rw [key _ (by simp)] at hv; cases hv
 ·intro b t n hb; rw [key _ (by simp)] at hb; cases hb
 ·intro b o v hb; rw [key _ (by simp)] at hb; cases hb
 ·intro r ks' e' by' xs' fz hr
  by_cases e0 : r = 0
  ·subst e0
   simp only [l6, LV.row.injEq] at hr
   obtain ⟨rfl, rfl, rfl, rfl, rfl⟩ := hr
   exact R.rw 0 _ _ _ _ _ h
  ·rw [key _ (by simpa using e0)] at hr; cases hr
 ·intro i s p hi; rw [key _ (by simp)] at hi; cases hi
 ·intro l v hl
  by_cases e' : l = .rw 0
  ·subst e'; simp at hl
  ·rw [key _ e'] at hl; cases hl
 ·intro l l' k h1 h2
  rw [(kb l k h1).1, (kb l' k h2).1]
 ·intro l k h1
  obtain ⟨rfl, h2⟩ := kb l k h1
  exact R.own (.rw 0) k (by simp [blk, h, h2])
 ·intro k t n hb; rw [key _ (by simp)] at hb; cases hb
theorem ah2 {f : FuncId} {rs : List Rw} {w' : World} (R : Rel (entCtx w G [] rs) G (inSto [] rs) act0 w) {ks e by_ xs zs} (hr : inSto [] rs (.rw 2000000000) = .row ks e by_ xs false) (hf : inSto [] rs (.rw 0) = .none)
  (htm : E.tm f = some ([.row 0 ks e by_], [])) {v' : Value} (hx : lE (rowBlk (G.rv 2000000000)) w w') (hv : RowV G.F w' ks e zs v')
  (hb : ∀ g, rowBlk v' = some g → rowBlk (G.rv 2000000000) = some g ∨ (w.heap.size ≤ g ∧ g < w'.heap.size)) :
  xP E f (entCtx w G [] rs) 0 (.ret [.row 0] [] [⟨ks, e, by_, zs⟩]) (.returned v') w' := by
 obtain ⟨q1, q2, q3, q4, q5⟩ := R.rw _ _ _ _ _ _ hr
 obtain ⟨R1, hg⟩ := R.adQ hr hx
 have hd : (inSto [] rs).upd (.rw 2000000000) .gone (.rw 0) = .none := by rw [aP _ _ (by simp)]; exact hf
 have R2 := R1.ae9 hd (by_ := by_) q3 q2 hv (fun g' hg' => by
  rcases hb g' hg' with h' | ⟨h', h''⟩
  ·obtain ⟨s1, s2, s3, s4⟩ := hg g' h'
   exact ⟨s1, Nat.lt_of_lt_of_le s2 hx.size, s3, s4⟩
  ·refine ⟨fun hk => by have := R.base.Flt _ hk; omega, h'', .inl (Nat.le_trans R.base.size h'), fun l hl => ?_⟩
   have hl' : blk G (inSto [] rs) l = some g' := by
    by_cases e : l = .rw 2000000000
    ·subst e; simp [blk] at hl
    ·cases l <;> simp only [blk] at hl ⊢ <;> first | (rw [aP _ _ (Ne.symm e)] at hl; exact hl) | exact hl
   have := (R.own l _ hl').2.1
   omega)
 have hG : (G.iQ 0 v' ks.length).rv 0 = v' := by simp [Gh.iQ]
 refine ⟨⟨_, _, _, htm, rfl, rfl, rfl, rfl, Nat.zero_le _, by simp, by simp⟩, [.row 0], [], [⟨ks, e, by_, zs⟩], [v'], G.iQ 0 v' ks.length, rfl, rfl, ?_, ?_, ?_, fun k hk => by omega⟩
 ·exact R2.only (by simp) _
 ·refine .cons _ _ _ _ ?_ .nil
  have h := AVR.row (G := G.iQ 0 v' ks.length) (w := w') 0
  rwa [hG] at h
 ·intro l hl
  simp [AV.refsL, AV.refs] at hl
  subst hl
  have : outSto [] [⟨ks, e, by_, zs⟩] (.rw 0) = .row ks e by_ zs false := by simp [outSto, jZ, bO]
  rw [this]; simp
theorem aeu {ρ : Ren} {nm : String} {ei : TI} (L : afO P ρ nm ei) (hdat : ei.ks.all CK.isData = true) (htm : E.tm (ρ.f 45) = some ([.row 0 ei.ks (ρ.t 23) ei.bytes], [])) :
  ajH P E (ρ.f 45) (.spec (afJ ei.ks (ρ.t 23) ei.bytes)) := by
 intro Γ _ args bs rs out h w G vs I
 simp only [yV, xZ] at h
 unfold afJ at h
 split at h
 ·rename_i p i j x
  split at h
  ·rename_i hc
   simp only [Bool.and_eq_true, decide_eq_true_eq] at hc
   obtain ⟨⟨⟨⟨⟨⟨⟨h1, h2⟩, h3⟩, h4⟩, h5⟩, h6⟩, h7⟩, hel⟩ := hc
   have hel := Nat.le_of_ble_eq_true hel
   obtain rfl := Nat.eq_of_beq_eq_true h1
   have e2 := dY h2
   have e3 := Nat.eq_of_beq_eq_true h3
   have e4 := Nat.eq_of_beq_eq_true h4
   injection h with h
   subst h
   have hr : inSto [] [x] (.rw 2000000000) = .row x.ks x.e x.bytes x.xs false := by simp [inSto, jZ, bO]
   have hf : inSto [] [x] (.rw 0) = .none := by simp [inSto, jZ, bO, aP]; rfl
   obtain ⟨r, r2⟩ := I
   have hvs : vs = [G.rv 2000000000, .int .i64 i, .int .i64 j] := by
    cases r2 with
    | cons _ v _ vs h0 hs =>
     cases hs with
     | cons _ v1 _ vs h1 hs =>
      cases hs with
      | cons _ v2 _ vs h2 hs =>
       cases hs
       cases h0
       rw [h1.iI, h2.iI]
   subst hvs
   obtain ⟨q1, q2, q3, q4, q5⟩ := r.rw _ _ _ _ _ _ hr
   have hlive : ∀ g', rowBlk (G.rv 2000000000) = some g' → ¬ G.F g' := fun g' hg' => (r.own (.rw 2000000000) g' (by simp [blk, hr, hg'])).1
   rw [← e2, ← e3] at q4
   have hi : (i.toNat : Int) = i := Int.toNat_of_nonneg h5
   have hj : (j.toNat : Int) = j := Int.toNat_of_nonneg (by omega)
   have H := alG L (q4.z hel) hlive (i := i.toNat) (j := j.toNat) (by omega) (by omega)
   rw [hi, hj] at H
   refine H.mono ?_
   rintro e w' ⟨v', rfl, k1, k2, k3⟩
   exact ah2 r (by rw [hr, ← e2, ← e3, ← e4]) hf htm k2 (k1.toV hel) k3
  ·cases h
 ·cases h
theorem ajW {ρ : Ren} {nm : String} {ei : TI} (L : afv P ρ nm ei) (hdat : ei.ks.all CK.isData = true) (htm : E.tm (ρ.f 22) = some ([.row 0 ei.ks (ρ.t 9) ei.bytes], [])) :
  ajH P E (ρ.f 22) (.insert ei.ks (ρ.t 9) ei.bytes) := by
 intro Γ _ args bs rs out h w G vs I
 simp only [yV, xZ] at h
 split at h
 case h_1 hq => cases hq
 case h_3 hq => cases hq
 case h_4 => cases h
 case h_2 ks e b p i q x y hk =>
  injection hk with k1 k2 k3
  subst k1; subst k2; subst k3
  split at h
  ·rename_i hc
   simp only [Bool.and_eq_true, decide_eq_true_eq, Bool.not_eq_true'] at hc
   obtain ⟨⟨⟨⟨⟨⟨⟨⟨⟨⟨⟨⟨h1, h2⟩, h3⟩, h4⟩, h5⟩, h6⟩, h7⟩, h8⟩, hel⟩, h9⟩, h10⟩, h11⟩, h12⟩ := hc
   have hel := Nat.le_of_ble_eq_true hel
   obtain rfl := Nat.eq_of_beq_eq_true h1
   obtain rfl := Nat.eq_of_beq_eq_true h2
   have e3 := dY h3
   have e4 := dY h4
   have e5 := Nat.eq_of_beq_eq_true h5
   have e6 := Nat.eq_of_beq_eq_true h6
   have e7 := Nat.eq_of_beq_eq_true h7
   have e8 := Nat.eq_of_beq_eq_true h8
   injection h with h
   subst h
   have hr : inSto [] [x, y] (.rw 2000000000) = .row ei.ks (ρ.t 9) ei.bytes x.xs false := by rw [e3, e5, e7]; simp [inSto, jZ, bO, aP]
   have hr2 : inSto [] [x, y] (.rw 2000000001) = .row ei.ks (ρ.t 9) ei.bytes y.xs false := by rw [e4, e6, e8]; simp [inSto, jZ, bO]
   have hf : inSto [] [x, y] (.rw 0) = .none := by simp [inSto, jZ, bO, aP]; rfl
   obtain ⟨r, r2⟩ := I
   have hvs : vs = [G.rv 2000000000, .int .i64 i, G.rv 2000000001] := by
    cases r2 with
    | cons _ v _ vs h0 hs =>
     cases hs with
     | cons _ v1 _ vs h1 hs =>
      cases hs with
      | cons _ v2 _ vs h2 hs =>
       cases hs
       cases h0
       cases h2
       rw [h1.iI]
   subst hvs
   obtain ⟨q1, q2, q3, q4, q5⟩ := r.rw _ _ _ _ _ _ hr
   obtain ⟨_, _, _, q6, _⟩ := r.rw _ _ _ _ _ _ hr2
   have hlive : ∀ g', rowBlk (G.rv 2000000000) = some g' → ¬ G.F g' := fun g' hg' => (r.own (.rw 2000000000) g' (by simp [blk, hr, hg'])).1
   have hy : y.xs ≠ [] := fun e => by rw [e] at h12; simp at h12
   have hne : ∀ g, rowBlk (G.rv 2000000000) = some g → rowBlk (G.rv 2000000001) ≠ some g := fun g h1 h2 => by
    have := r.inj (.rw 2000000000) (.rw 2000000001) g (by simp [blk, hr, h1]) (by simp [blk, hr2, h2])
    simp at this
   have hi : (i.toNat : Int) = i := Int.toNat_of_nonneg h9
   have H := alr L (q4.z hel) (q6.z hel) hel hy hne r.base.Flt hlive (i := i.toNat) (by omega) h11 hdat
   rw [hi] at H
   refine H.mono ?_
   rintro e w' ⟨v', rfl, k1, k2, k3⟩
   exact ah2 r hr hf htm k2 (k1.toV hel) k3
  ·cases h
end
def ahw {α : Type} (b : Nat) (p0 : List α) (p1 : Int) (p2 : List α) : Option (List α) :=
 cond (decide (0 ≤ p1) && decide (p1 ≤ p0.length) && decide ((p0.length + p2.length) * b ≤ 140737488355328) && !p2.isEmpty) (some (p0.take p1.toNat ++ p2 ++ p0.drop p1.toNat)) none
def adK {α : Type} (p0 : List α) (p1 p2 : Int) : Option (List α) :=
 cond (decide (0 ≤ p1) && decide (p1 ≤ p2) && decide (p2 ≤ p0.length)) (some (p0.take p1.toNat ++ p0.drop p2.toNat)) none
theorem ake {E : Env} {α : Type} {enc : α → List D} {f : FuncId} {ks e b} (hlib : E.lib f = some (.insert ks e b)) (hke : (fL ks ks && Nat.blt e ROWF) = true) (p0 : List α) (p1 : Int) (p2 : List α) :
  Le (Option.map (fun r : List α => Out.ret [.row 0] [] [⟨ks, e, b, r.map enc⟩]) (ahw b p0 p1 p2)) (aV E f [.row 2000000000, .d (.int .i64 p1), .row 2000000001] [] [⟨ks, e, b, p0.map enc⟩, ⟨ks, e, b, p2.map enc⟩]) := by
 obtain ⟨hk, he⟩ := Bool.and_eq_true_iff.1 hke
 unfold ahw
 cases hc : (decide (0 ≤ p1) && decide (p1 ≤ p0.length) && decide ((p0.length + p2.length) * b ≤ 140737488355328) && !p2.isEmpty) with
 | false => exact le_none
 | true =>
  refine le_of_eq (Eq.symm (ags hlib ?_))
  have h2 : (decide (0 ≤ p1) && decide (p1 ≤ (List.map enc p0).length) && decide (((List.map enc p0).length + (List.map enc p2).length) * b ≤ 140737488355328) && !(List.map enc p2).isEmpty) = true := by simpa using hc
  simp only [Bool.and_eq_true] at h2
  simp only [xZ, Nat.beq_refl, hk, he, h2.1.1.1, h2.1.1.2, h2.1.2, h2.2, Bool.and_self, if_true, List.map_append, List.map_take, List.map_drop]
theorem agi {E : Env} {α : Type} {enc : α → List D} {f : FuncId} {ks e b} (hlib : E.lib f = some (.spec (afJ ks e b))) (hke : (fL ks ks && Nat.blt e ROWF) = true) (p0 : List α) (p1 p2 : Int) :
  Le (Option.map (fun r : List α => Out.ret [.row 0] [] [⟨ks, e, b, r.map enc⟩]) (adK p0 p1 p2)) (aV E f [.row 2000000000, .d (.int .i64 p1), .d (.int .i64 p2)] [] [⟨ks, e, b, p0.map enc⟩]) := by
 obtain ⟨hk, he⟩ := Bool.and_eq_true_iff.1 hke
 unfold adK
 cases hc : (decide (0 ≤ p1) && decide (p1 ≤ p2) && decide (p2 ≤ p0.length)) with
 | false => exact le_none
 | true =>
  refine le_of_eq (Eq.symm (ags hlib ?_))
  have h2 : (decide (0 ≤ p1) && decide (p1 ≤ p2) && decide (p2 ≤ (List.map enc p0).length)) = true := by simpa using hc
  simp only [Bool.and_eq_true] at h2
  simp only [xZ, afJ, Nat.beq_refl, hk, he, h2.1.1, h2.1.2, h2.2, Bool.and_self, if_true, List.map_append, List.map_take, List.map_drop]
end PX
