import Derived.Test.YtojlmojebnlmdaaGreatDoorSessR
import Derived.Test.YtojlmojebnlmdaaGreatDoorLawSessionOffers
set_option linter.unusedVariables false
set_option linter.unusedSimpArgs false
namespace PX
open Go
namespace Md
def yR : Int → List aC → Int
 | a, [] => a
 | a, p :: r => yR (cond (gR p) p.Message.Seq a) r
def abH : List aC → Nat
 | [] => 0
 | p :: r => cond (gR p) 1 0 + abH r
def agn : Int → List aC → Prop
 | _, [] => True
 | a, p :: r => (gR p = true → a < p.Message.Seq) ∧ agn (cond (gR p) p.Message.Seq a) r
def aiD : Int → List (Int × aA) → Int
 | a, [] => a
 | a, p :: r => aiD p.2.Seq r
theorem avl {a : Int} {Q : List aC} : ∀ {P : List aC}, (∀ p ∈ P, gR p = false) → yR a (P ++ Q) = yR a Q ∧ abH (P ++ Q) = abH Q ∧ (agn a (P ++ Q) ↔ agn a Q)
 | [], _ => ⟨rfl, rfl, Iff.rfl⟩
 | p :: r, h => by
  have h0 := h p (by simp)
  obtain ⟨i1, i2, i3⟩ := avl (a := a) (Q := Q) (P := r) (fun q hq => h q (by simp [hq]))
  simp only [List.cons_append, yR, abH, agn, h0, cS]
  refine ⟨i1, by rw [i2]; omega, ?_⟩
  rw [i3]; simp
theorem asL : ∀ (L : List (Int × aA)) (a : Int) (T : List Int), (a :: (L.map (·.2.Seq) ++ T)).Pairwise (· < ·) → yR a (pT L) = aiD a L ∧ abH (pT L) = L.length ∧ agn a (pT L) ∧ (aiD a L :: T).Pairwise (· < ·)
 | [], a, T, h => ⟨rfl, rfl, trivial, h⟩
 | p :: r, a, T, h => by
  have h1 : a < p.2.Seq := by
   have := List.rel_of_pairwise_cons h (a' := p.2.Seq) (by simp)
   exact this
  have h2 := (List.pairwise_cons.1 h).2
  obtain ⟨i1, i2, i3, i4⟩ := asL r p.2.Seq T h2
  have hf : gR (yY p.1 false p.2) = true := rfl
  have e : pT (p :: r) = yY p.1 false p.2 :: pT r := rfl
  rw [e]
  simp only [yR, abH, agn, hf, cA]
  exact ⟨i1, by rw [i2, List.length_cons]; omega, ⟨fun _ => h1, i3⟩, i4⟩
theorem anX {b : Int} : ∀ (L : List (Int × aA)) (a : Int), a ≤ b → (∀ x ∈ L.map (·.2.Seq), x ≤ b) → aiD a L ≤ b
 | [], _, h, _ => h
 | p :: r, a, h, hx => anX r p.2.Seq (hx _ (by simp)) (fun x h => hx x (by simp at h ⊢; exact .inr h))
structure INV (s : aB) (off last sent : Int) : Prop where
 ok : SOK s
 num : (s.Queue.length : Int) + sent + s.Dropped = off
 out : (s.Out.Items.length : Int) ≤ sent
 asc : (last :: s.Queue.map (·.Seq)).Pairwise (· < ·)
 hi : ∀ x ∈ s.Queue.map (·.Seq), x ≤ off
 s0 : 0 ≤ sent
 o1 : off ≤ 1000
 l1 : last ≤ off
theorem INV.aAQ {s r : aB} {L : List (Int × aA)} {off last sent : Int} (h : INV s off last sent) (hr : SOK r) (m : yO s r L) : INV r off (aiD last L) (sent + L.length) ∧ agn last (pT L) ∧ yR last (pT L) = aiD last L ∧ abH (pT L) = L.length := by
 have hp : (last :: (L.map (·.2.Seq) ++ r.Queue.map (·.Seq))).Pairwise (· < ·) := List.Pairwise.sublist (m.sub.cons_cons _) h.asc
 obtain ⟨i1, i2, i3, i4⟩ := asL L last _ hp
 have hn := m.num
 have ho := m.out
 have h1 := h.num
 have h2 := h.out
 have h3 := h.s0
 have hm : ∀ x ∈ L.map (·.2.Seq) ++ r.Queue.map (·.Seq), x ≤ off := fun x hx => h.hi x (m.sub.subset hx)
 exact ⟨⟨hr, by omega, by omega, i4, fun x hx => hm x (List.mem_append.2 (.inr hx)), by omega, h.o1, anX L last h.l1 fun x hx => hm x (List.mem_append.2 (.inl hx))⟩, i3, i1, i2⟩
theorem ayh (k4 : Int → Int → List aK → Int → Int → Int → Int → Int → aB → Option Bool) (x1 x2 : Int) (x3 : List aK) (off last sent now : Int) (j : Nat) (hj : j ≤ 60) (x32 : Int) (x33 : Bool) (x156 : List aD) (x157 x158 : Int) (x159 : Bool) (x162 : aB) (x163 : Int) (x164 : Bool) {s : aB} (h : INV s off last sent) :
  c8 fuel k4 x1 x2 x3 off last sent now (j : Int) 0 x32 x33 x156 x157 x158 x159 x162 x163 x164 s = k4 x1 x2 x3 off last sent now ((j + 1 : Nat) : Int) s := by
 have hq := h.ok.qlen
 have ha := h.asc
 rw [List.pairwise_cons] at ha
 obtain ⟨a1, a2⟩ := ha
 have e1 : ∀ i (hi : i < s.Queue.length), last < s.Queue[i].Seq := fun i hi => a1 _ (List.mem_map_of_mem (List.getElem_mem hi))
 have e2 : ∀ i (hi : i < s.Queue.length), 0 < i → s.Queue[i - 1].Seq < s.Queue[i].Seq := fun i hi h0 => by
  have := List.pairwise_iff_getElem.1 a2 (i - 1) i (by simp; omega) (by simp; omega) (by omega)
  simpa using this
 exact kV (n := s.Queue.length) (F := fun fu i (_ : Unit) => c8 fu k4 x1 x2 x3 off last sent now (j : Int) i x32 x33 x156 x157 x158 x159 x162 x163 x164 s) (G := fun _ _ => k4 x1 x2 x3 off last sent now ((j + 1 : Nat) : Int) s) (fun _ _ => True)
  (fun fu u _ => by rw [c8, aU (by simp), bN (by omega)])
  (fun fu i u hi _ ih => by
   rw [c8, aO (eA hi), aO (inr hi), bV hi, aU (by have := e1 i hi; simp; omega), bN (by omega), ih () trivial]
   rcases Nat.eq_zero_or_pos i with hz | hpos
   ·rw [aU (by simp; omega)]
   ·have hq1 : i - 1 < s.Queue.length := by omega
    have e4 : IntKind.wrap .i64 ((i : Int) - 1) = ((i - 1 : Nat) : Int) := by rw [IntKind.wrap_i64]; omega
    rw [aO (by simp; omega), aO (inr hi), e4, aO (inr hq1), bV hq1, aU (by have := e2 i hi hpos; simp; omega)]) (by omega) () trivial
theorem asf (k4 : Int → Int → List aK → Int → Int → Int → Int → Int → aB → Option Bool) (x1 x2 : Int) (x3 : List aK) (off last sent now : Int) (j : Nat) (hj : j ≤ 60) (x32 : Int) (x33 : Bool) {s : aB} (h : INV s off last sent) :
  dH k4 x1 x2 x3 off last sent now (j : Int) x32 x33 s = k4 x1 x2 x3 off last sent now ((j + 1 : Nat) : Int) s := by
 have hd := (lW.1 h.ok.head).2.2.2.2.2
 have h1 := h.num
 have h2 := h.s0
 have h3 := h.o1
 have h4 := h.out
 have e : IntKind.wrap .i64 (IntKind.wrap .i64 ((s.Queue.length : Int) + sent) + s.Dropped) = off := by
  rw [show IntKind.wrap .i64 ((s.Queue.length : Int) + sent) = (s.Queue.length : Int) + sent by rw [IntKind.wrap_i64]; omega, IntKind.wrap_i64]; omega
 unfold dH jT
 rw [e, aU (by simp), aU (by simp; omega), h.ok.ajf, bD, aU (by rfl)]
 exact ayh k4 x1 x2 x3 off last sent now j hj x32 x33 _ _ _ _ _ _ _ h
theorem awR (k4 : Int → Int → List aK → Int → Int → Int → Int → Int → aB → Option Bool) (x1 x2 : Int) (x3 : List aK) (off now : Int) (j : Nat) (x32 : Int) (x33 : Bool) (s : aB) (P : List aC) (hP : P.length ≤ 2000) (last sent : Int) (h0 : 0 ≤ sent) (h1 : sent ≤ 10000) (ha : agn last P) :
  cV fuel k4 x1 x2 x3 off last sent now (j : Int) 0 x32 x33 s P = dH k4 x1 x2 x3 off (yR last P) (sent + abH P) now (j : Int) x32 x33 s := by
 have := rY (l := P) (F := fun fu i (st : Int × Int) => cV fu k4 x1 x2 x3 off st.1 st.2 now (j : Int) i x32 x33 s P) (g := fun l st => dH k4 x1 x2 x3 off (yR st.1 l) (st.2 + abH l) now (j : Int) x32 x33 s) (fun i st => agn st.1 (P.drop i) ∧ 0 ≤ st.2 ∧ st.2 ≤ 10000 + i)
  (fun fu st _ => by rw [cV, aU (by simp)]; simp [yR, abH])
  (fun fu i st hi hst ih => by
   obtain ⟨q1, q2, q3⟩ := hst
   rw [List.drop_eq_getElem_cons hi] at q1
   obtain ⟨q4, q5⟩ := q1
   rw [cV, aO (eA hi)]
   simp only [aO (inr hi), bV hi]
   rw [bN (by omega)]
   by_cases hf : gR P[i] = true
   ·have hf2 := hf
    unfold gR at hf2
    rw [Bool.and_eq_true] at hf2
    rw [hf, cA] at q5
    have ih := ih (P[i].Message.Seq, st.2 + 1) ⟨q5, by show 0 ≤ st.2 + 1; omega, by show st.2 + 1 ≤ _; omega⟩
    have hw : IntKind.wrap .i64 (st.2 + 1) = st.2 + 1 := by rw [IntKind.wrap_i64]; omega
    rw [hf2.1, hf2.2, cA, cA, aU (by have := q4 hf; simp; omega), hw]
    refine ih.trans ?_
    simp only [yR, abH, hf, cA]
    congr 1
    omega
   ·have hf' : gR P[i] = false := by simpa using hf
    rw [hf', cS] at q5
    have ih := ih st ⟨q5, q2, by omega⟩
    have e : ∀ (X Y Z : Option Bool), Y = Z → (cond (P[i].Kind == 3) (cond (!P[i].Dup) X Y) Y) = Z := fun X Y Z hh => by
     unfold gR at hf'
     cases k3 : P[i].Kind == 3 with
     | false => exact hh
     | true =>
      rw [k3, Bool.true_and] at hf'
      rw [hf']; exact hh
    refine e _ _ _ (ih.trans ?_)
    simp only [yR, abH, hf', cS]
    congr 1
    omega) (by omega) (last, sent) ⟨by simpa using ha, h0, by show sent ≤ _; omega⟩
 exact this
def abc (lv : Int) (ex seq : Int) : aA := aA.mk ([116] : Str) ([] : Str) lv false 0 ex ([] : Str) seq ([] : List aG)
theorem awr : acU ([116] : Str) = true := by kernel_rfl
theorem atE {lv ex seq : Int} (h0 : 0 ≤ lv) (h1 : lv ≤ 2) (e0 : 0 ≤ ex) (e1 : ex ≤ 1099511627776) (s0 : 0 ≤ seq) (s1 : seq ≤ 1000) : okT (abc lv ex seq) := by
 have z : okI .i64 0 := nB (by decide) (by decide)
 have ns : okS [] := by show (0 : Nat) ≤ _; omega
 refine ⟨?_, by show (1 : Nat) ≤ _; omega, ns, nB (x := lv) (by omega) (by omega), z, nB (x := ex) (by omega) (by omega), ns, nB (x := seq) (by omega) (by omega), by simp [abc], by simp [abc]⟩
 unfold gT
 rw [show acU (abc lv ex seq).Topic = true from awr, cA, aU (by rfl), show dF 0 2 (abc lv ex seq).Level = true from tT.2 ⟨h0, h1⟩, cA, show dF 0 9 (abc lv ex seq).Priority = true from rfl, cA, show dF 0 1099511627776 (abc lv ex seq).Expires = true from tT.2 ⟨e0, e1⟩, cA, show ((abc lv ex seq).From == []) = true from rfl, cA, show dF 0 1099511627776 (abc lv ex seq).Seq = true from tT.2 ⟨by show 0 ≤ seq; omega, by show seq ≤ _; omega⟩, cA]
 rfl
theorem arZ {s : aB} {off last sent : Int} (h : INV s off last sent) (h9 : off ≤ 100) {m : aA} (hm : okT m) (hs : m.Seq = off + 1) (x y : Int) : INV (abA s m x y).1 (off + 1) last sent := by
 have hd := (lW.1 h.ok.head).2.2.2.2.2
 have h1 := h.num
 have h2 := h.s0
 have h3 := h.o1
 have h4 := h.l1
 have hq := h.ok.qlen
 have up : ∀ (q : List aA) (n : Int), q.length ≤ 256 → (∀ z ∈ q, okT z) → 0 ≤ n → n ≤ 1 → (q.length : Int) + n = s.Queue.length + 1 → (last :: q.map (·.Seq)).Pairwise (· < ·) → (∀ z ∈ q.map (·.Seq), z ≤ off + 1) → INV (nV (tA s q) n) (off + 1) last sent := fun q n q1 q2 n0 n1 q3 q4 q5 => by
  have ok := h.ok.queue q1 q2
  have e := aoY ok (n := n) n0 (by show s.Dropped + n ≤ _; omega)
  refine ⟨ok.drop n0 (by omega), ?_, h.out, q4, q5, h2, by omega, by omega⟩
  rw [e]
  show (q.length : Int) + sent + (s.Dropped + n) = _
  omega
 have same : INV (nV s 1) (off + 1) last sent := by
  have := up s.Queue 1 hq h.ok.q (by omega) (by omega) (by omega) h.asc (fun z hz => by have := h.hi z hz; omega)
  exact this
 have snoc : ∀ (q : List aA), q.Sublist s.Queue → (last :: (q ++ [m]).map (·.Seq)).Pairwise (· < ·) ∧ ∀ z ∈ (q ++ [m]).map (·.Seq), z ≤ off + 1 := fun q hsub => by
  have hs1 : (q.map (·.Seq)).Sublist (s.Queue.map (·.Seq)) := hsub.map _
  constructor
  ·rw [List.map_append, ← List.cons_append, List.pairwise_append]
   refine ⟨List.Pairwise.sublist (hs1.cons_cons _) h.asc, by simp, ?_⟩
   intro a ha b hb
   simp at hb
   rw [hb, hs]
   rcases List.mem_cons.1 ha with rfl | ha
   ·omega
   ·have := h.hi a (hs1.subset ha); omega
  ·intro z hz
   rw [List.map_append, List.mem_append] at hz
   rcases hz with hz | hz
   ·have := h.hi z (hs1.subset hz); omega
   ·simp at hz; omega
 have key : INV (acE s m x y).1 (off + 1) last sent := by
  unfold acE lO
  by_cases c1 : (s.Queue.length : Int) < ad9 x
  ·rw [if_pos c1]
   obtain ⟨p1, p2⟩ := snoc s.Queue (List.Sublist.refl _)
   exact up (s.Queue ++ [m]) 0 (by simp; omega) (fun z hz => by
    rcases List.mem_append.1 hz with hz | hz
    ·exact h.ok.q z hz
    ·rw [List.mem_singleton] at hz; rw [hz]; exact hm) (by omega) (by omega) (by simp) p1 p2
  ·rw [if_neg c1]
   by_cases c2 : y ≠ 1 ∨ ad9 x < 1
   ·rw [if_pos c2]; exact same
   ·rw [if_neg c2]
    obtain ⟨p1, p2⟩ := snoc s.Queue.tail (List.tail_sublist _)
    exact up (s.Queue.tail ++ [m]) 1 (by simp; omega) (fun z hz => by
     rcases List.mem_append.1 hz with hz | hz
     ·exact h.ok.q z (List.mem_of_mem_tail hz)
     ·rw [List.mem_singleton] at hz; rw [hz]; exact hm) (by omega) (by omega) (by simp; omega) p1 p2
 unfold abA
 cases s.Online
 ·cases m.Level == 0
  ·exact key
  ·exact same
 ·exact key
theorem az3 (x : Int) : ∃ l, IntKind.wrap .i64 (Int.tmod (IntKind.wrap .u64 x) 3) = l ∧ 0 ≤ l ∧ l ≤ 2 := by
 obtain ⟨j, hj, e⟩ := aqb x (n := 3) (by omega) (by omega)
 have : IntKind.wrap .u64 ((3 : Nat) : Int) = 3 := by rfl
 rw [this] at e
 exact ⟨(j : Int), e, by omega, by omega⟩
theorem arH (x1 x2 : Int) (ops : List aK) (hops : ∀ o ∈ ops, 0 ≤ o.Later ∧ o.Later ≤ 255) (hlen : ops.length ≤ 140737488355328) : ∀ (fu : Nat) (i : Nat) (s : aB) (off last sent now : Int), i ≤ 60 → i ≤ ops.length → 61 < fu + i → INV s off last sent → 0 ≤ off → off ≤ i → 0 ≤ now → now ≤ 255 * i →
  eC fu x1 x2 ops off last sent now (i : Int) s = some true := by
 intro fu
 induction fu with
 | zero => intro i s off last sent now h1 h2 h3; omega
 | succ fu ih =>
  intro i s off last sent now hi60 hil hfu h o0 o1 n0 n1
  rw [eC]
  by_cases c : i < ops.length
  ·rw [aO (eA c)]
   by_cases c6 : (i : Int) < 60
   ·rw [aO (by simpa using c6)]
    have hl := hops _ (List.getElem_mem c)
    have hd := (lW.1 h.ok.head).2.2.2.2.2
    have hs0 := h.s0
    have hnum := h.num
    have hql := h.ok.qlen
    have ew : IntKind.wrap .i64 ops[i].Later = ops[i].Later := by rw [IntKind.wrap_i64]; omega
    have en : IntKind.wrap .i64 (now + ops[i].Later) = now + ops[i].Later := by rw [IntKind.wrap_i64]; omega
    have eo : IntKind.wrap .i64 (off + 1) = off + 1 := by rw [IntKind.wrap_i64]; omega
    obtain ⟨lv, el, l0, l1⟩ := az3 ops[i].Level
    unfold j4
    simp only [aO (inr c), bV c, ew, en, eo, el]
    cases k0 : ops[i].Kind == 0 with
    | true =>
     simp only [cA]
     have key : ∀ ex, 0 ≤ ex → ex ≤ 1099511627776 → dW (eC fu) x1 x2 ops (off + 1) last sent (now + ops[i].Later) (i : Int) (i : Int) (decide ((i : Int) < 60)) s (abc lv ex (off + 1)) = some true := fun ex e0 e1 => by
      have ok := atE l0 l1 e0 e1 (seq := off + 1) (by omega) (by omega)
      have inv := arZ h (by omega) ok rfl x1 x2
      unfold dW
      rw [an3 s _ h.ok.wX (by have := l5 ok.1; omega), bD, asf _ x1 x2 ops _ _ _ _ i (by omega) _ _ inv]
      exact ih (i + 1) _ _ _ _ _ (by omega) (by omega) (by omega) inv (by omega) (by omega) (by omega) (by omega)
     cases hlf : decide (ops[i].Life > 0) with
     | false => exact key 0 (by omega) (by omega)
     | true =>
      simp only [cA]
      have hlf' : ops[i].Life > 0 := by simpa using hlf
      cases hl2 : decide (ops[i].Life ≤ 549755813888) with
      | false => exact key 0 (by omega) (by omega)
      | true =>
       have hl2' : ops[i].Life ≤ 549755813888 := by simpa using hl2
       have e : IntKind.wrap .i64 (now + ops[i].Later + ops[i].Life) = now + ops[i].Later + ops[i].Life := by rw [IntKind.wrap_i64]; omega
       rw [e]
       exact key (now + ops[i].Later + ops[i].Life) (by omega) (by omega)
    | false =>
     simp only [cS]
     obtain ⟨r, pre, L, e, r1, r2, r3, r4⟩ := run_eq h.ok ops[i] (now := now + ops[i].Later) ⟨by omega, by omega⟩ (by omega)
     obtain ⟨inv, a1, a2, a3⟩ := h.aAQ r1 r2
     obtain ⟨p1, p2, p3⟩ := avl (a := last) (Q := pT L) (P := pre) r3
     have hnum' := r2.num
     have hd' := (lW.1 r1.head).2.2.2.2.2
     rw [e, bD]
     simp only [Bool.not_true, cS]
     rw [awR _ x1 x2 ops off _ i _ _ r (pre ++ pT L) (by simp [pT]; omega) last sent hs0 (by omega) (p3.2 a1), p1, p2, a2, a3, asf _ x1 x2 ops _ _ _ _ i (by omega) _ _ inv]
     exact ih (i + 1) _ _ _ _ _ (by omega) (by omega) (by omega) inv o0 (by omega) (by omega) (by omega)
   ·rw [aU (by simpa using c6), aci]; rfl
  ·rw [aU (mX c), aci]; rfl
theorem aaU (p0 : Int) (p1 : Int) (p2 : Int) (p3 : (List aK)) (g0 : D.okL [.int .u8] ([D.int .u8 p0])) (g1 : D.okL [.int .i64] ([D.int .i64 p1])) (g2 : D.okL [.int .i64] ([D.int .i64 p2])) (g3 : D.okL [.sl aK.ks] ([D.sl aK.ks (List.map aK.enc p3)])) : lT p0 p1 p2 p3 = some true := by
 have hg : okL aK.good p3 := lU (fun _ => aK.eV) g3.1
 have u8 : ∀ {x : Int}, okI .u8 x → 0 ≤ x ∧ x ≤ 255 := fun {x} h => by
  simp only [okI, Go.Lit.wf, Go.IntKind.min, Go.IntKind.max, Go.IntKind.signed, Go.IntKind.bits, Bool.and_eq_true, decide_eq_true_eq] at h
  simpa using h
 have hp := u8 (show okI .u8 p0 from g0.1.2)
 have ew : IntKind.wrap .i64 p0 = p0 := by rw [IntKind.wrap_i64]; omega
 have et : IntKind.wrap .i64 (1 + Int.tmod p0 32) = 1 + p0 % 32 := by
  rw [Int.tmod_eq_emod_of_nonneg hp.1, IntKind.wrap_i64]; omega
 unfold lT
 rw [ew, et]
 have hz := akW (x := 1 + p0 % 32) (by omega) (by omega)
 have hk := akw (x := 1 + p0 % 32) (by omega) (by omega)
 have e : p7 (aa9 (1 + p0 % 32)) 1 = _ := (azT hz 1).1
 have ok := azA hk hz (conn := 1) (nB (by decide) (by decide))
 have inv : INV (ajD (aa9 (1 + p0 % 32)) 1) 0 0 0 := ⟨ok, rfl, Int.le_refl _, by simp [ajD], by simp [ajD], Int.le_refl _, by omega, Int.le_refl _⟩
 refine Eq.trans (congrArg (fun q => Option.bind q _) e) ?_
 rw [bD]
 have hl := hg.1
 have := arH p1 p2 p3 (fun o ho => u8 (hg.2 o ho).2.2.2.2) (by omega) fuel 0 (ajD (aa9 (1 + p0 % 32)) 1) 0 0 0 0 (by omega) (by omega) (by rw [fX]; omega) inv (by omega) (by omega) (by omega) (by omega)
 exact this
end Md
end PX
