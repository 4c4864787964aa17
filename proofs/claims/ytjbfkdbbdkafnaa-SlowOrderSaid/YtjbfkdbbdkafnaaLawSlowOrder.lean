import Derived.Test.YtjbfkdbbdkafnaaSlowAwake
import Derived.Test.YtjbfkdbbdkafnaaPXc
set_option linter.unusedVariables false
set_option linter.unusedSimpArgs false
set_option linter.unusedVariables false
set_option linter.unusedSimpArgs false
namespace PX
open Go
namespace Md
def msgN (k : Int) : api_Message := api_Message.mk ([116] : Str) ([] : Str) 0 false 0 0 ([] : Str) k ([] : List api_Prop)
def listN (n : Nat) : List api_Message := (List.range n).map fun k => msgN ((k + 1 : Nat) : Int)
theorem listN_len (n : Nat) : (listN n).length = n := by simp [listN]
theorem listN_succ (n : Nat) : listN (n + 1) = listN n ++ [msgN ((n + 1 : Nat) : Int)] := by simp [listN, List.range_succ]
theorem listN_get {n i : Nat} (h : i < (listN n).length) : (listN n)[i] = msgN ((i + 1 : Nat) : Int) := by simp [listN]
theorem listN_pair (n : Nat) : (listN n).Pairwise fun a b => a.Seq < b.Seq := by
  rw [List.pairwise_iff_getElem]
  intro i j hi hj hij
  rw [listN_get, listN_get]; show ((i + 1 : Nat) : Int) < ((j + 1 : Nat) : Int); omega
theorem listN_mem {n : Nat} {m : api_Message} (h : m ∈ listN n) : 1 ≤ m.Seq ∧ m.Seq ≤ n ∧ okM m := by
  obtain ⟨i, hi, rfl⟩ := List.getElem_of_mem h
  rw [listN_get]
  rw [listN_len] at hi
  refine ⟨?_, ?_, ?_⟩
  · show 1 ≤ ((i + 1 : Nat) : Int); omega
  · show ((i + 1 : Nat) : Int) ≤ n; omega
  · show 0 * 32 ≤ 140737488351232; omega
theorem numbered_eq (x : Int) (h : x ≤ 100) : brokerlaw17_numbered x = some (listN x.toNat) := by
  unfold brokerlaw17_numbered
  have := loop_nat0 (n := x.toNat) (F := fun fu i s => brokerlaw17_numbered_l3 fu x (i + 1) s) (G := fun _ _ => some (listN x.toNat)) (fun i s => s = listN i)
    (fun fu s hs => by rw [brokerlaw17_numbered_l3, cond_f (by simp; omega), hs])
    (fun fu i s hi hs ih => by
      have e : IntKind.wrap .i64 ((i : Int) + 1 + 1) = ((i + 1 : Nat) : Int) + 1 := by rw [w64 (by omega) (by omega)]; omega
      rw [brokerlaw17_numbered_l3, cond_t (by simp; omega), cond_t (by subst hs; rw [listN_len]; simp; omega), e]
      exact ih _ (by rw [hs, listN_succ]; rfl)) (by omega) [] rfl
  exact this
/-- Which numbers were seen. -/
def seenOf (n : Nat) (l : List api_Message) : List Bool := (List.range (n + 1)).map fun (j : Nat) => l.any fun m => m.Seq == (j : Int)
theorem seen_len (n : Nat) (l : List api_Message) : (seenOf n l).length = n + 1 := by simp [seenOf]
theorem seen_get {n : Nat} {l : List api_Message} {j : Nat} (h : j < n + 1) : (seenOf n l).getD j default = l.any fun m => m.Seq == (j : Int) := by
  rw [getD_at (by rw [seen_len]; exact h)]; simp [seenOf]
theorem seen_nil (n : Nat) : List.replicate (n + 1) (default : Bool) = seenOf n [] := by
  apply List.ext_getElem
  · simp [seen_len]
  · intro i h1 h2; simp [seenOf]
theorem seen_set {n : Nat} {l : List api_Message} {m : api_Message} (h1 : 0 ≤ m.Seq) : (seenOf n l).set m.Seq.toNat true = seenOf n (l ++ [m]) := by
  apply List.ext_getElem
  · simp [seen_len]
  · intro i h2 h3
    rw [List.getElem_set]
    simp only [seenOf, List.getElem_map, List.getElem_range, List.any_append, List.any_cons, List.any_nil, Bool.or_false]
    split
    · rename_i h; have : m.Seq = (i : Int) := by omega
      simp [this]
    · rename_i h; have : (m.Seq == (i : Int)) = false := by simp; omega
      simp [this]
/-- What holds of the queue and what was dropped after `i` messages. -/
structure OrdInv (max : Int) (pols : List Int) (i : Nat) (q d : List api_Message) : Prop where
  perm : (q ++ d).Perm (listN i)
  sub : q.Sublist (listN i)
  short : q = [] ∨ (q.length : Int) ≤ max
  last : pols.length = 1 → 1 ≤ max → pols.getD 0 default = 1 → q = (listN i).drop (i - max.toNat)
  first : pols.length = 1 → 1 ≤ max → pols.getD 0 default ≠ 1 → q = (listN i).take max.toNat
theorem ord_zero (max : Int) (pols : List Int) : OrdInv max pols 0 [] [] :=
  ⟨.nil, .refl _, .inl rfl, fun _ _ _ => by simp [listN], fun _ _ _ => by simp [listN]⟩
theorem ord_step {max : Int} {pols : List Int} {i : Nat} {q d : List api_Message} (h : OrdInv max pols i q d) {pol : Int} (hp : pols.length = 1 → pol = pols.getD 0 default) :
    OrdInv max pols (i + 1) (pushed q (msgN ((i + 1 : Nat) : Int)) max pol).1 (d ++ (pushed q (msgN ((i + 1 : Nat) : Int)) max pol).2.1) ∧ (pushed q (msgN ((i + 1 : Nat) : Int)) max pol).2.1.length ≤ 1 := by
  obtain ⟨p, s, sh, la, fi⟩ := h
  have hN := listN_len i
  unfold pushed
  by_cases c1 : (q.length : Int) < max
  · rw [if_pos c1]
    refine ⟨⟨?_, ?_, ?_, ?_, ?_⟩, by simp⟩
    · simp only [List.append_nil]
      rw [listN_succ]
      have h1 : (q ++ [msgN ((i + 1 : Nat) : Int)] ++ d).Perm (q ++ d ++ [msgN ((i + 1 : Nat) : Int)]) := by
        rw [List.append_assoc, List.append_assoc]; exact (List.perm_append_comm).append_left q
      exact h1.trans (p.append_right _)
    · rw [listN_succ]; exact s.append (.refl _)
    · right; simp; omega
    · intro a b c
      have e := la a b c
      have hl : q.length = i - (i - max.toNat) := by rw [e]; simp [hN]
      rw [listN_succ, e, show i - max.toNat = 0 by omega, show i + 1 - max.toNat = 0 by omega]; simp
    · intro a b c
      have e := fi a b c
      have hl : q.length = min max.toNat i := by rw [e]; simp [hN]
      rw [listN_succ, e, List.take_of_length_le (l := listN i) (by omega), List.take_of_length_le (by simp; omega)]
  · rw [if_neg c1]
    by_cases c2 : pol ≠ 1 ∨ max < 1
    · rw [if_pos c2]
      refine ⟨⟨?_, ?_, sh, ?_, ?_⟩, by simp⟩
      · simp only
        rw [← List.append_assoc, listN_succ]; exact p.append_right _
      · rw [listN_succ]; exact s.trans (List.sublist_append_left _ _)
      · intro a b c; have := hp a; omega
      · intro a b c
        have e := fi a b c
        have hl : q.length = min max.toNat i := by rw [e]; simp [hN]
        rw [listN_succ, List.take_append_of_le_length (by omega)]; exact e
    · rw [if_neg c2]
      have hl : 0 < q.length := by omega
      obtain ⟨x, r, rfl⟩ : ∃ x r, q = x :: r := by cases q with | nil => simp at hl | cons x r => exact ⟨x, r, rfl⟩
      have hq2 : (((x :: r).length : Nat) : Int) ≤ max := sh.resolve_left (by simp)
      refine ⟨⟨?_, ?_, ?_, ?_, ?_⟩, by simp⟩
      · simp only [List.tail_cons, List.headD_cons]
        rw [listN_succ]
        have h1 : (r ++ [msgN ((i + 1 : Nat) : Int)] ++ (d ++ [x])).Perm (x :: r ++ d ++ [msgN ((i + 1 : Nat) : Int)]) := by
          have a1 : (r ++ [msgN ((i + 1 : Nat) : Int)] ++ (d ++ [x])).Perm ([x] ++ (r ++ [msgN ((i + 1 : Nat) : Int)] ++ d)) := by
            rw [← List.append_assoc (r ++ _)]; exact List.perm_append_comm
          refine a1.trans ?_
          simp only [List.singleton_append, List.cons_append, List.append_assoc]
          have b := ((List.perm_append_comm (l₁ := [msgN ((i + 1 : Nat) : Int)]) (l₂ := d)).append_left r).cons x
          simpa using b
        exact h1.trans (p.append_right _)
      · rw [listN_succ]; exact ((List.sublist_cons_self x r).trans s).append (.refl _)
      · right; simp at hq2 ⊢; omega
      · intro a b c
        have e := la a b c
        have hl2 : (x :: r).length = i - (i - max.toNat) := by rw [e]; simp [hN]
        have hm : (x :: r).length = max.toNat := by omega
        have e2 : r = (listN i).drop (i - max.toNat + 1) := by rw [← List.tail_drop, ← e]; rfl
        rw [listN_succ]
        show r ++ _ = _
        rw [e2, List.drop_append_of_le_length (by omega), show i - max.toNat + 1 = i + 1 - max.toNat by omega]
      · intro a b c; have := hp a; omega
theorem getD0 {pols : List Int} (h : 0 < pols.length) : pols.getD (Int.toNat 0) default = pols.getD 0 default := rfl
theorem j34_ok {max : Int} {pols : List Int} {n : Nat} (hn : n ≤ 100) {q d : List api_Message} (h : OrdInv max pols n q d) (hl : pols.length = 1) (h1 : 1 ≤ max) (hq : okQ q) {k : Nat} (hk : k = min max.toNat n) :
    brokerlaw17_SlowOrder_j34 pols (k : Int) (listN n) q = some true := by
  have hN := listN_len n
  unfold brokerlaw17_SlowOrder_j34
  rw [cond_t (by simp; omega), slow_awake]
  simp only [cn_bind, cn_bindp, cn_t]
  have e1 : IntKind.wrap .i64 (((listN n).length : Int) - (k : Int)) = ((n - k : Nat) : Int) := by rw [w64 (by omega) (by omega)]; omega
  rw [e1]
  by_cases c : pols.getD 0 default = 1
  · have e := h.last hl h1 c
    have e2 : List.take ((listN n).length - Int.toNat ((n - k : Nat) : Int)) (List.drop (Int.toNat ((n - k : Nat) : Int)) (listN n)) = q := by
      rw [Int.toNat_natCast, List.take_of_length_le (by simp), e, show n - max.toNat = n - k by omega]
    rw [cond_t (by simpa using c), cond_t (by simp; omega), e2]
    exact q_same q hq
  · have e := h.first hl h1 c
    have e2 : List.take (Int.toNat (k : Int) - 0) (List.drop 0 (listN n)) = q := by
      rw [e, hk, Int.toNat_natCast, Nat.sub_zero, List.drop_zero]
      by_cases hm : max.toNat ≤ n
      · rw [Nat.min_eq_left hm]
      · rw [Nat.min_eq_right (by omega), List.take_of_length_le (by omega), List.take_of_length_le (by omega)]
    rw [cond_f (by simpa using c), cond_t (by simp; omega), e2]
    exact q_same q hq
theorem l24_ok {max : Int} {pols : List Int} {n : Nat} (hn : n ≤ 100) {q d : List api_Message} (h : OrdInv max pols n q d) (hq : okQ q) :
    brokerlaw17_SlowOrder_l24 fuel max pols 0 (listN n) q d (seenOf n q) = some true := by
  have hN := listN_len n
  have hlen := h.perm.length_eq
  rw [hN, List.length_append] at hlen
  have hnd : ((q ++ d).map (·.Seq)).Nodup := by
    refine ((h.perm.map (·.Seq)).nodup_iff).2 ?_
    refine List.Pairwise.map _ (fun a b (hab : a.Seq < b.Seq) => ?_) (listN_pair n)
    omega
  have hrng : ∀ m ∈ d, 1 ≤ m.Seq ∧ m.Seq ≤ n := fun m hm => by
    have := listN_mem (h.perm.mem_iff.1 (List.mem_append_right _ hm)); exact ⟨this.1, this.2.1⟩
  refine loop_nat0 (n := d.length) (F := fun fu i s => brokerlaw17_SlowOrder_l24 fu max pols i (listN n) q d s) (G := fun _ _ => some true) (fun i s => s = seenOf n (q ++ d.take i))
    (fun fu s hs => ?_) (fun fu i s hi hs ih => ?_) (by omega) _ (by simp)
  · rw [brokerlaw17_SlowOrder_l24, cond_f (lt_f (by omega)), slow_awake]
    simp only [cn_bind]
    by_cases c1 : pols.length = 1
    · rw [cond_f (by simp [c1])]
      by_cases c2 : max < 1
      · rw [cond_t (by simpa using c2)]
      · rw [cond_f (by simpa using c2)]
        unfold brokerlaw17_SlowOrder_j31
        by_cases c3 : max > ((listN n).length : Int)
        · rw [cond_t (by simpa using c3)]
          exact j34_ok hn h c1 (by omega) hq (by omega)
        · rw [cond_f (by simpa using c3)]
          have : max = ((max.toNat : Nat) : Int) := by omega
          conv => lhs; arg 2; rw [this]
          exact j34_ok hn h c1 (by omega) hq (by omega)
    · rw [cond_t (by simp; omega)]
  · obtain ⟨r1, r2⟩ := hrng _ (List.getElem_mem hi)
    have en : (d[i].Seq.toNat : Int) = d[i].Seq := by omega
    have hseen : List.getD s (Int.toNat d[i].Seq) default = false := by
      rw [hs, seen_get (by omega), en]
      rw [List.any_eq_false]
      intro m hm he
      have he : m.Seq = d[i].Seq := by simpa using he
      have hsp : q ++ d = (q ++ d.take i) ++ d[i] :: d.drop (i + 1) := by rw [List.append_assoc, ← List.drop_eq_getElem_cons hi, List.take_append_drop]
      rw [hsp, List.map_append, List.map_cons] at hnd
      exact (List.nodup_append.1 hnd).2.2 _ (List.mem_map_of_mem hm) _ List.mem_cons_self he
    have hsl : s.length = n + 1 := by rw [hs, seen_len]
    rw [brokerlaw17_SlowOrder_l24, cond_t (lt_t hi)]
    simp only [cond_t (inr hi), getD_nat hi]
    rw [cond_f (by simp; omega), cond_f (by simp; omega), cond_t (by simp; omega), hseen, cn_f, cond_t (by simp; omega), w64_succ (by omega)]
    refine ih _ ?_
    rw [hs, seen_set (by omega), List.append_assoc, take_snoc hi]
theorem l18_ok {max : Int} {pols : List Int} {n : Nat} (hn : n ≤ 100) {q d : List api_Message} (h : OrdInv max pols n q d) (hq : okQ q) :
    brokerlaw17_SlowOrder_l18 fuel max pols 0 (listN n) q d (seenOf n []) = some true := by
  have hN := listN_len n
  have hlen := h.sub.length_le
  rw [hN] at hlen
  have hpair := (listN_pair n).sublist h.sub
  rw [List.pairwise_iff_getElem] at hpair
  have hrng : ∀ m ∈ q, 1 ≤ m.Seq ∧ m.Seq ≤ n := fun m hm => by
    have := listN_mem (h.sub.subset hm); exact ⟨this.1, this.2.1⟩
  refine loop_nat0 (n := q.length) (F := fun fu i s => brokerlaw17_SlowOrder_l18 fu max pols i (listN n) q d s) (G := fun _ _ => some true) (fun i s => s = seenOf n (q.take i))
    (fun fu s hs => ?_) (fun fu i s hi hs ih => ?_) (by omega) _ (by simp)
  · rw [brokerlaw17_SlowOrder_l18, cond_f (lt_f (by omega)), hs, List.take_length]
    exact l24_ok hn h hq
  · obtain ⟨r1, r2⟩ := hrng _ (List.getElem_mem hi)
    have hsl : s.length = n + 1 := by rw [hs, seen_len]
    have hw : IntKind.wrap .i64 ((i : Int) + 1) = ((i + 1 : Nat) : Int) := w64_succ (by omega)
    have step : brokerlaw17_SlowOrder_l18 fu max pols ((i + 1 : Nat) : Int) (listN n) q d (List.set s (Int.toNat q[i].Seq) true) = some true := by
      refine ih _ ?_
      rw [hs, seen_set (by omega), take_snoc hi]
    rw [brokerlaw17_SlowOrder_l18, cond_t (lt_t hi)]
    simp only [cond_t (inr hi), getD_nat hi, hw, step]
    have t1 : decide (q[i].Seq < 1) = false := by simp; omega
    have t2 : decide (q[i].Seq > ((listN n).length : Int)) = false := by simp; omega
    have t3 : (decide (0 ≤ q[i].Seq) && decide (q[i].Seq < (s.length : Int))) = true := by simp; omega
    simp only [t1, t2, t3, cn_t, cn_f]
    by_cases hz : i = 0
    · rw [cond_f (by simp; omega)]
    · have e2 : IntKind.wrap .i64 ((i : Int) - 1) = ((i - 1 : Nat) : Int) := by rw [w64 (by omega) (by omega)]; omega
      have hp := hpair (i - 1) i (by omega) hi (by omega)
      have hi' : i - 1 < q.length := by omega
      rw [cond_t (by simp; omega), e2, cond_t (inr hi'), getD_nat hi', cond_f (by simp; omega)]
theorem brokerlaw17_SlowOrder_law (p0 : Int) (p1 : Int) (p2 : (List Int)) (g0 : D.okL [.int .u8] ([D.int .u8 p0])) (g1 : D.okL [.int .i64] ([D.int .i64 p1])) (g2 : D.okL [.sl [.int .i64]] ([D.sl [.int .i64] (List.map (encI .i64) p2)])) : brokerlaw17_SlowOrder p0 p1 p2 = some true := by
  have h0 : 0 ≤ p0 ∧ p0 ≤ 255 := by
    have h := g0.1.2
    simp only [Go.Lit.wf, Go.IntKind.min, Go.IntKind.max, Go.IntKind.signed, Go.IntKind.bits, Bool.and_eq_true, decide_eq_true_eq, if_true, Bool.false_eq_true, if_false] at h
    omega
  have hp2 : p2.length ≤ 140737488351232 := (okL_of (P := fun _ => True) (fun _ _ => trivial) g2.1).1
  unfold brokerlaw17_SlowOrder
  rw [w64 (by omega) (by omega)]
  have hx : Int.tmod p0 101 ≤ 100 := by have := Int.tmod_lt_of_pos p0 (show (0 : Int) < 101 by decide); omega
  rw [bind_of (numbered_eq _ hx)]
  have hn : (Int.tmod p0 101).toNat ≤ 100 := by omega
  generalize (Int.tmod p0 101).toNat = n at hn
  have hN := listN_len n
  refine loop_nat0 (σ := List api_Message × List api_Message) (n := n) (F := fun fu i s => brokerlaw17_SlowOrder_l4 fu p1 p2 i (listN n) s.1 s.2) (G := fun _ _ => some true) (fun i s => OrdInv p1 p2 i s.1 s.2)
    (fun fu s hs => ?_) (fun fu i s hi hs ih => ?_) (by omega) ([], []) (ord_zero _ _)
  · obtain ⟨q, d⟩ := s
    simp only at hs ⊢
    have hlen := hs.perm.length_eq
    rw [hN, List.length_append] at hlen
    have hq : okQ q := ⟨by omega, fun m hm => (listN_mem (hs.sub.subset hm)).2.2⟩
    have hj : brokerlaw17_SlowOrder_j16 p1 p2 (listN n) q d = some true := by
      unfold brokerlaw17_SlowOrder_j16
      rw [hN, w64_succ (by omega), cond_t (by simp; omega), Int.toNat_natCast, seen_nil]
      exact l18_ok hn hs hq
    rw [brokerlaw17_SlowOrder_l4, cond_f (by simp; omega), w64 (by omega) (by omega), cond_f (by simp; omega), hj]
    by_cases c : q = []
    · rw [cond_f (by simp [c])]
    · have hl : 0 < q.length := List.length_pos_iff.2 c
      have := hs.short.resolve_left c
      rw [cond_t (by simp; omega), cond_f (by simp; omega)]
  · obtain ⟨q, d⟩ := s
    simp only at hs ih ⊢
    have hlen := hs.perm.length_eq
    rw [listN_len, List.length_append] at hlen
    have hq : okQ q := ⟨by omega, fun m hm => (listN_mem (hs.sub.subset hm)).2.2⟩
    have hi' : i < (listN n).length := by omega
    have hm : okM (msgN ((i + 1 : Nat) : Int)) := by show 0 * 32 ≤ 140737488351232; omega
    have hj : ∀ pol : Int, (p2.length = 1 → pol = p2.getD 0 default) → brokerlaw17_SlowOrder_j9 (brokerlaw17_SlowOrder_l4 fu) p1 p2 (i : Int) pol (listN n) q d = some true := by
      intro pol hp
      obtain ⟨s1, s2⟩ := ord_step (max := p1) hs hp
      unfold brokerlaw17_SlowOrder_j9
      rw [cond_t (inr hi'), getD_nat hi', listN_get, bind_of (push_eq hq hm), w64_succ (by omega)]
      generalize pushed q (msgN ((i + 1 : Nat) : Int)) p1 pol = r at s1 s2
      rw [cond_f (by simp; omega), cond_t (by simp; omega)]
      exact ih (r.1, d ++ r.2.1) s1
    rw [brokerlaw17_SlowOrder_l4, cond_t (by simp; omega)]
    by_cases c : p2.length = 0
    · rw [cond_f (by simp [c])]
      exact hj 2 (by omega)
    · have t1 := Int.tmod_nonneg (p2.length : Int) (show (0 : Int) ≤ (i : Int) by omega)
      have t2 := Int.tmod_lt_of_pos (i : Int) (show (0 : Int) < (p2.length : Int) by omega)
      rw [cond_t (by simp; omega), cond_t (by simp only [bne_iff_ne]; omega), cond_t (by simp only [Bool.and_eq_true, decide_eq_true_eq]; exact ⟨t1, t2⟩)]
      refine hj _ (fun h1 => ?_)
      have : Int.tmod (i : Int) (p2.length : Int) = 0 := by omega
      rw [this]; rfl
end Md
end PX
