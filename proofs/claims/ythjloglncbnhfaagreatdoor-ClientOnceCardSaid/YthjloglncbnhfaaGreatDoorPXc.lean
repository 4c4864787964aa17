/- An evaluator of the program's Lean form that knows no memory, and the proof that what it tells of a call holds of that call: no statement of the program by itself; conditions: none beyond each theorem's own. -/
import Derived.Test.YthjloglncbnhfaaGreatDoorPXb
import GoSem.ClaimData
import Derived.ChangeStays
import Derived.ChangeSame
import Derived.ChangeArms
import Derived.WideShapes
import Derived.DataElems
import Derived.JoinedCond
import Derived.WalkKit
import Derived.RowKit
import Derived.ChangeMaps5
import Derived.ChangeBears
import Derived.ChangeCalls
import Derived.KernelRfl
import Derived.Laws.RangeAny
set_option linter.unusedVariables false
set_option linter.unusedSimpArgs false
set_option linter.unusedVariables false
set_option linter.unusedSimpArgs false
namespace PX
open Go
structure TLe (st st' : Sto) : Prop where
 oth : ∀ l, (∀ r, l ≠ .rw r) → (∀ b o, l ≠ .bc b o) → st' l = st l
 row : ∀ r, st' (.rw r) = st (.rw r) ∨ ∃ ks e b xs fz, st (.rw r) = .row ks e b xs fz ∧ st' (.rw r) = .row ks e b xs true
 bc : ∀ b o, st (.bc b o) ≠ .none → st' (.bc b o) ≠ .none
theorem TLe.refl (st : Sto) : TLe st st := ⟨fun _ _ _ => rfl, fun _ => .inl rfl, fun _ _ h => h⟩
theorem TLe.trans {a b c : Sto} (h : TLe a b) (k : TLe b c) : TLe a c := by
 refine ⟨fun l h1 h2 => (k.oth l h1 h2).trans (h.oth l h1 h2), fun r => ?_, fun b o hb => k.bc b o (h.bc b o hb)⟩
 rcases h.row r with h1 | ⟨ks, e, by_, xs, fz, h1, h2⟩ <;> rcases k.row r with k1 | ⟨ks', e', by', xs', fz', k1, k2⟩
 ·exact .inl (k1.trans h1)
 ·exact .inr ⟨ks', e', by', xs', fz', h1 ▸ k1, k2⟩
 ·exact .inr ⟨ks, e, by_, xs, fz, h1, k1.trans h2⟩
 ·rw [h2] at k1; injection k1 with e1 e2 e3 e4 e5
  subst e1; subst e2; subst e3; subst e4
  exact .inr ⟨ks, e, by_, xs, fz, h1, k2⟩
theorem SLe.tle {st st' : Sto} (h : SLe st st') : TLe st st' := ⟨fun l h1 _ => h.oth l h1, h.row, fun b o hb => by rw [h.oth _ (by simp)]; exact hb⟩
theorem TLe.none {st st' : Sto} (h : TLe st st') {l : Loc} (hl : st l ≠ .none) : st' l ≠ .none := by
 cases l with
 | rw r =>
  rcases h.row r with h1 | ⟨ks, e, b, xs, fz, h1, h2⟩
  ·rw [h1]; exact hl
  ·rw [h2]; simp
 | tm i => rw [h.oth _ (by simp) (by simp)]; exact hl
 | bc i j => exact h.bc i j hl
 | bx i => rw [h.oth _ (by simp) (by simp)]; exact hl
 | it i => rw [h.oth _ (by simp) (by simp)]; exact hl
def bxC : Nat → List Nat → List Cn
 | _, [] => []
 | k, o :: r => .bx o (2000000000 + k) :: bxC (k + 1) r
def rwC : Nat → List Nat → List Cn
 | _, [] => []
 | k, o :: r => .rw o (2000000000 + k) :: rwC (k + 1) r
theorem uQ {x : Cn} : ∀ {l : List Nat} {k : Nat}, x ∈ bxC k l ↔ ∃ j o, l[j]? = some o ∧ x = .bx o (2000000000 + (k + j))
 | [], k => by simp [bxC]
 | o :: l, k => by
  simp only [bxC, List.mem_cons, uQ (l := l)]
  constructor
  ·rintro (rfl | ⟨j, o', h1, h2⟩)
   ·exact ⟨0, o, by simp, rfl⟩
   ·exact ⟨j + 1, o', by simpa using h1, by rw [h2]; congr 2; omega⟩
  ·rintro ⟨j, o', h1, h2⟩
   cases j with
   | zero => simp at h1; subst h1; exact .inl h2
   | succ j => exact .inr ⟨j, o', by simpa using h1, by rw [h2]; congr 2; omega⟩
theorem uO {x : Cn} : ∀ {l : List Nat} {k : Nat}, x ∈ rwC k l ↔ ∃ j o, l[j]? = some o ∧ x = .rw o (2000000000 + (k + j))
 | [], k => by simp [rwC]
 | o :: l, k => by
  simp only [rwC, List.mem_cons, uO (l := l)]
  constructor
  ·rintro (rfl | ⟨j, o', h1, h2⟩)
   ·exact ⟨0, o, by simp, rfl⟩
   ·exact ⟨j + 1, o', by simpa using h1, by rw [h2]; congr 2; omega⟩
  ·rintro ⟨j, o', h1, h2⟩
   cases j with
   | zero => simp at h1; subst h1; exact .inl h2
   | succ j => exact .inr ⟨j, o', by simpa using h1, by rw [h2]; congr 2; omega⟩
theorem ahS : ∀ {c : List Cn}, uD c = true ↔ c.Pairwise fun x y => Cn.meets x y = false
 | [] => by simp [uD]
 | x :: c => by simp only [uD, Bool.and_eq_true, List.all_eq_true, Bool.not_eq_true', List.pairwise_cons, ahS (c := c)]
theorem akl : ∀ {l : List Nat} {k : Nat}, l.Nodup → (bxC k l).Pairwise fun x y => Cn.meets x y = false
 | [], k, _ => by simp [bxC]
 | o :: l, k, h => by
  simp only [bxC, List.pairwise_cons]
  obtain ⟨h1, h2⟩ := List.nodup_cons.1 h
  refine ⟨fun y hy => ?_, akl h2⟩
  obtain ⟨j, o', h3, rfl⟩ := uQ.1 hy
  have : o ≠ o' := fun e => h1 (by rw [e]; exact List.mem_of_getElem? h3)
  simp only [Cn.meets, bne_eq_false_iff_eq]
  rw [beq_false this, beq_false (by omega)]
theorem akG : ∀ {l : List Nat} {k : Nat}, l.Nodup → (rwC k l).Pairwise fun x y => Cn.meets x y = false
 | [], k, _ => by simp [rwC]
 | o :: l, k, h => by
  simp only [rwC, List.pairwise_cons]
  obtain ⟨h1, h2⟩ := List.nodup_cons.1 h
  refine ⟨fun y hy => ?_, akG h2⟩
  obtain ⟨j, o', h3, rfl⟩ := uO.1 hy
  have : o ≠ o' := fun e => h1 (by rw [e]; exact List.mem_of_getElem? h3)
  simp only [Cn.meets, bne_eq_false_iff_eq]
  rw [beq_false this, beq_false (by omega)]
theorem al2 {bl rl : List Nat} (h1 : bl.Nodup) (h2 : rl.Nodup) : uD (bxC 0 bl ++ rwC 0 rl) = true := by
 rw [ahS, List.pairwise_append]
 refine ⟨akl h1, akG h2, fun x hx y hy => ?_⟩
 obtain ⟨j, o, _, rfl⟩ := uQ.1 hx
 obtain ⟨j', o', _, rfl⟩ := uO.1 hy
 rfl
theorem aj9 (bl rl : List Nat) : nils (bxC 0 bl ++ rwC 0 rl) = [] := by
 refine List.eq_nil_iff_forall_not_mem.2 (fun n hn => ?_)
 obtain ⟨ks, e, b, hm⟩ := yR hn
 rcases List.mem_append.1 hm with h | h
 ·obtain ⟨j, o, _, e⟩ := uQ.1 h; cases e
 ·obtain ⟨j, o, _, e⟩ := uO.1 h; cases e
theorem wJ (bs : List Bx) (rs : List Rw) (l : Loc) : inSto bs rs l = .none ∨ (∃ (j : Nat) (r : Rw), rs[j]? = some r ∧ l = .rw (2000000000 + j) ∧ inSto bs rs l = .row r.ks r.e r.bytes r.xs false) ∨
  (∃ (j : Nat) (b : Bx), bs[j]? = some b ∧ l = .bx (2000000000 + j) ∧ inSto bs rs l = .bx b.t b.cells.length) ∨
  (∃ (j : Nat) (b : Bx) (i : Nat) (x : AV), bs[j]? = some b ∧ b.cells[i]? = some x ∧ l = .bc (2000000000 + j) i ∧ inSto bs rs l = .av x) := by
 unfold inSto
 rcases mO rs 2000000000 (bO 2000000000 bs Sto.nil) l with h1 | h1
 ·rcases lN bs 2000000000 Sto.nil l with h2 | ⟨j, b, q1, q2, q3⟩ | ⟨j, b, i, x, q1, q2, q3, q4⟩
  ·exact .inl (by rw [h1, h2]; rfl)
  ·exact .inr (.inr (.inl ⟨j, b, q1, q2, by rw [h1, q3]⟩))
  ·exact .inr (.inr (.inr ⟨j, b, i, x, q1, q2, q3, by rw [h1, q4]⟩))
 ·exact .inr (.inl h1)
theorem ahO (bs : List Bx) (rs : List Rw) {j : Nat} {b : Bx} (h : bs[j]? = some b) : inSto bs rs (.bx (2000000000 + j)) = .bx b.t b.cells.length := by
 unfold inSto
 rcases mO rs 2000000000 (bO 2000000000 bs Sto.nil) (.bx (2000000000 + j)) with h1 | ⟨_, _, _, h2, _⟩
 ·rw [h1, oX _ _ _ h]
 ·cases h2
theorem ahm (bs : List Bx) (rs : List Rw) {j : Nat} {r : Rw} (h : rs[j]? = some r) : inSto bs rs (.rw (2000000000 + j)) = .row r.ks r.e r.bytes r.xs false := by
 unfold inSto
 exact zN _ _ _ h
section
variable {P : Program} {E : Env} {Γ : Fun} {X : Ctx} {G : Gh} {st : Sto} {a : Act} {w : World} {tr : Tr} {po : PO}
structure aj2 (G : Gh) (st : Sto) (w : World) (o : Nat) (b : Bx) : Prop where
 bx : st (.bx o) = .bx b.t b.cells.length
 mem : ∃ arr, w.heap[G.bb o]? = some (.cells arr b.t (0, 0)) ∧ arr.size = b.cells.length ∧ AVRs G w b.cells arr.toList
 one : b.cells.all AV.one = true
 flat : AV.refsL b.cells = []
theorem amp {k : CK} {x : AV} {v : Value} (h : AVR G w x v) : AVR G w (aik k x) v := by
 unfold aik
 split
 ·rename_i ks
  split
  ·rename_i hk
   cases h with
   | nil a => exact .d (.sl ks [] a 0 (fun _ _ => undef) (by simp) (by simp) (by simp) hk (by simp) (by simp))
  ·exact h
 ·exact h
theorem aln {k : CK} {x : AV} (h : x.one = true) : (aik k x).one = true := by
 unfold aik
 split
 ·split
  ·rfl
  ·exact h
 ·exact h
theorem aep : ∀ {ks : List CK} {cs : List AV} {vs : List Value}, AVRs G w cs vs → AVRs G w (wI ks cs) vs
 | [], _, _, h => by simpa [wI] using h
 | _ :: _, [], _, h => by simpa [wI] using h
 | k :: ks, x :: cs, _, .cons _ v _ vs h hs => .cons _ _ _ _ (amp h) (aep hs)
theorem agz : ∀ {ks : List CK} {cs : List AV}, cs.all AV.one = true → (wI ks cs).all AV.one = true
 | [], _, h => by simpa [wI] using h
 | _ :: _, [], h => by simp [wI]
 | k :: ks, x :: cs, h => by
  simp only [List.all_cons, Bool.and_eq_true, wI] at h ⊢
  exact ⟨aln h.1, agz h.2⟩
theorem abb {t : TypeId} {cs : List AV} {vs : List Value} (h : AVRs G w cs vs) : AVRs G w (abk E t cs) vs := by
 unfold abk; split
 ·exact aep h
 ·exact h
theorem akp {t : TypeId} {cs : List AV} (h : cs.all AV.one = true) : (abk E t cs).all AV.one = true := by
 unfold abk; split
 ·exact agz h
 ·exact h
theorem alJ {t : TypeId} {x : AV} {v : Value} (h : AVR G w x v) : AVR G w (amo E t x) v := by
 unfold amo
 split
 ·cases h with
  | agg cs vs h => exact .agg _ _ (abb h)
 ·have h1 : AVRs G w [AV.nil] [v] := .cons _ _ _ _ h .nil
  have h2 := abb (E := E) (t := t) h1
  split
  ·rename_i x hx
   rw [hx] at h2
   cases h2 with | cons _ _ _ _ h _ => exact h
  ·exact h
 ·exact h
theorem aeb : ∀ {ts : List TypeId} {as : List AV} {vs : List Value}, AVRs G w as vs → AVRs G w (aeK E ts as) vs
 | [], _, _, h => by simpa [aeK] using h
 | _ :: _, [], _, h => by simpa [aeK] using h
 | t :: ts, x :: as, _, .cons _ v _ vs h hs => .cons _ _ _ _ (alJ h) (aeb hs)
theorem abZ {f : FuncId} {as : List AV} {vs : List Value} (h : AVRs G w as vs) : AVRs G w (aar E f as) vs := by
 unfold aar
 cases E.kn f
 case true => exact h
 simp only [cond_false]
 split
 ·exact aeb h
 ·exact h
theorem abo : ∀ {bl : List Nat} {c : List Bx → Pr} {G : Gh} {st : Sto} {tr : Tr}, Rel X G st a w → prE Γ (zT E bl c) st tr = some po →
  ∃ G' st' bs tr', Rel X G' st' a w ∧ GLe G G' ∧ TLe st st' ∧ bs.length = bl.length ∧ (∀ (j : Nat) (b : Bx), bs[j]? = some b → ∃ o, bl[j]? = some o ∧ aj2 G' st' w o b) ∧ prE Γ (c bs) st' tr' = some po
 | [], c, G, st, tr, R, h => ⟨G, st, [], tr, R, .refl _, .refl _, rfl, by simp, h⟩
 | b :: bl, c, G, st, tr, R, h => by
  simp only [zT, prE] at h
  split at h
  ·rename_i t n hb
   obtain ⟨cs, tr1, hl, hcs, h1⟩ := yI h
   obtain ⟨vs, hvs, hcell⟩ := uU R (b := b) (off := 0) (cs := cs) hcs
   obtain ⟨arr, harr, hsz⟩ := R.bx b t n hb
   have hvl : vs.length = n := by rw [← hl]; exact hvs.length.symm
   have hva : vs = arr.toList := by
    apply List.ext_getElem?
    intro i
    by_cases hi : i < n
    ·have h2 := hcell i (vs[i]'(by omega)) (List.getElem?_eq_getElem _)
     rw [cell_of_row w _ _ arr t (0, 0) harr, Nat.zero_add] at h2
     rw [List.getElem?_eq_getElem (by omega), Array.getElem?_toList, h2]
    ·rw [List.getElem?_eq_none (by omega), List.getElem?_eq_none (by simp; omega)]
   subst hva
   obtain ⟨G1, st1, cs', tr2, R1, g1, s1, h2, o1, f1, h3⟩ := sV R (abb (E := E) (t := t) hvs) h1
   obtain ⟨hflat, h4⟩ := bS h3
   obtain ⟨tr3, hex, h5⟩ := yU h4
   have hflat' : AV.refsL cs' = [] := by simpa using hflat
   have hone := o1 (akp (AVRs.afl R hcs))
   have hcl : cs'.length = n := by rw [h2.length, hvl]
   have hb1 : st1 (.bx b) = .bx t n := by rw [s1.oth _ (by simp)]; exact hb
   have harr1 : w.heap[G1.bb b]? = some (.cells arr t (0, 0)) := by rw [g1.bb]; exact harr
   have R2 := R1.ahs hb1 harr1 (off := 0) (cs := cs') (vs := arr.toList) h2 hone (by rw [hflat']; simp) (by omega)
   have hw : w.setRow (G1.bb b) ⟨arr.toList.take 0 ++ arr.toList ++ arr.toList.drop (0 + arr.toList.length)⟩ = w := by
    simp only [List.take_zero, List.nil_append, Nat.zero_add, List.drop_length, List.append_nil, Array.toArray_toList]
    exact setRow_self w _ arr t (0, 0) harr1
   rw [hw] at R2
   obtain ⟨G3, st3, bs, tr4, R3, g3, s3, hbl, hbs, h6⟩ := abo R2 h5
   have sm : TLe st1 (cF b 0 cs' st1) := ⟨fun l _ h2 => cZ _ _ _ _ (fun o e => h2 b o e), fun r => .inl (cZ _ _ _ _ (by simp)), fun b' o hb' => by
    rw [cR]; simp only; split
    ·simp
    ·exact hb'⟩
   refine ⟨G3, st3, ⟨t, cs'⟩ :: bs, tr4, R3, g1.trans g3, (s1.tle.trans sm).trans s3, by simp [hbl], fun j b' hj => ?_, h6⟩
   cases j with
   | zero =>
    obtain rfl : ⟨t, cs'⟩ = b' := by simpa using hj
    refine ⟨b, by simp, ⟨?_, ⟨arr, by rw [g3.bb]; exact harr1, by simp [hcl, hsz], g3.uL h2⟩, hone, hflat'⟩⟩
    rw [s3.oth _ (by simp) (by simp), cZ _ _ _ _ (by simp), hb1, hcl]
   | succ j =>
    obtain ⟨o, ho, hB⟩ := hbs j b' (by simpa using hj)
    exact ⟨o, by simpa using ho, hB⟩
  ·exact (aY h).elim
theorem abK : ∀ {rl : List Nat} {c : List Rw → Pr} {st : Sto} {tr : Tr}, Rel X G st a w → prE Γ (abh rl c) st tr = some po →
  ∃ st' rs tr', Rel X G st' a w ∧ rs.length = rl.length ∧ (∀ (j : Nat) (r : Rw), rs[j]? = some r → ∃ o, rl[j]? = some o ∧ st (.rw o) = .row r.ks r.e r.bytes r.xs false) ∧
   (∀ l, (∀ o ∈ rl, l ≠ .rw o) → st' l = st l) ∧ (∀ o ∈ rl, st' (.rw o) = .gone) ∧ prE Γ (c rs) st' tr' = some po
 | [], c, st, tr, R, h => ⟨st, [], tr, R, rfl, by simp, fun _ _ => rfl, by simp, h⟩
 | r :: rl, c, st, tr, R, h => by
  simp only [abh, prE] at h
  split at h
  ·rename_i ks e by_ xs hr
   simp only [prE] at h
   obtain ⟨R1, _⟩ := R.adQ hr ((Ext.refl w).but _)
   obtain ⟨st', rs, tr', R2, h1, h2, h3, h4, h5⟩ := abK R1 h
   refine ⟨st', ⟨ks, e, by_, xs⟩ :: rs, tr', R2, by simp [h1], fun j q hj => ?_, fun l hl => ?_, fun o ho => ?_, h5⟩
   ·cases j with
    | zero =>
     obtain rfl : (⟨ks, e, by_, xs⟩ : Rw) = q := by simpa using hj
     exact ⟨r, by simp, hr⟩
    | succ j =>
     obtain ⟨o, ho, hq⟩ := h2 j q (by simpa using hj)
     refine ⟨o, by simpa using ho, ?_⟩
     by_cases e' : Loc.rw r = .rw o
     ·rw [← e'] at hq; simp at hq
     ·rw [aP _ _ e'] at hq; exact hq
   ·rw [h3 l (fun o ho => hl o (by simp [ho])), aP _ _ (fun e => hl r (by simp) e.symm)]
   ·by_cases hm : o ∈ rl
    ·exact h4 o hm
    ·obtain rfl := (List.mem_cons.1 ho).resolve_right hm
     rw [h3 _ (fun o' ho' e => hm (by injection e with e; rw [e]; exact ho'))]
     simp
  ·exact (aY h).elim
end
end PX
set_option linter.unusedVariables false
set_option linter.unusedSimpArgs false
namespace PX
open Go
def ach (fb fr : Nat → Nat) : Loc → Loc
 | .bx b => .bx (fb b)
 | .rw r => .rw (fr r)
 | l => l
mutual
theorem ail (fb fr : Nat → Nat) : ∀ (x : AV), (x.ren fb fr).refs = x.refs.map (ach fb fr)
 | .d _ => rfl
 | .dead => rfl
 | .undf => rfl
 | .anyb => rfl
 | .nil => rfl
 | .nilp => rfl
 | .nilf => rfl
 | .nili => rfl
 | .ptr _ _ => rfl
 | .ep _ _ _ => rfl
 | .rp _ _ _ => rfl
 | .row _ => rfl
 | .win _ _ _ => rfl
 | .agg cs => by simp only [AV.ren, AV.refs]; exact pM fb fr cs
 | .tup cs => by simp only [AV.ren, AV.refs]; exact pM fb fr cs
 | .fn f a c => by simp only [AV.ren, AV.refs, List.map_append, pM fb fr a, pM fb fr c]
 | .it _ => rfl
 | .ifc t v => by simp only [AV.ren, AV.refs]; exact ail fb fr v
theorem pM (fb fr : Nat → Nat) : ∀ (xs : List AV), AV.refsL (AV.xL fb fr xs) = (AV.refsL xs).map (ach fb fr)
 | [] => rfl
 | x :: xs => by simp only [AV.xL, AV.refsL, List.map_append, ail fb fr x, pM fb fr xs]
end
section
variable {P : Program} {E : Env} {Γ : Fun} {X : Ctx} {G : Gh} {st : Sto} {a : Act} {w : World} {tr : Tr} {po : PO}
theorem aoM (R : Rel X G st a w) {bl rl : List Nat} {bs : List Bx} {rs : List Rw} (hbl : bl.Nodup) (hrl : rl.Nodup) (hb : bs.length = bl.length) (hbs : ∀ (j : Nat) (b : Bx), bs[j]? = some b → ∃ o, bl[j]? = some o ∧ aj2 G st w o b)
  (hr : rs.length = rl.length) (hrs : ∀ (j : Nat) (r : Rw), rs[j]? = some r → ∃ o, rl[j]? = some o ∧ st (.rw o) = .row r.ks r.e r.bytes r.xs false)
  {F1 : Nat → Prop} (hF1 : ∀ k, F1 k → ∃ r, r ∉ rl ∧ blk G st (.rw r) = some k) {as : List AV} {vs : List Value} (hA : AVRs (G.fT F1) w as vs) (hrefs : ∀ l ∈ AV.refsL as, (∃ b ∈ bl, l = .bx b) ∨ (∃ r ∈ rl, l = .rw r)) :
  ∃ G0, Ent w G0 (AV.xL (fun b => 2000000000 + idx b bl) (fun r => 2000000000 + idx r rl) as) bs rs vs ∧ (∀ k, G0.F k ↔ G.F k ∨ F1 k) ∧
   (∀ (j o : Nat), bl[j]? = some o → G0.bb (2000000000 + j) = G.bb o) ∧ (∀ (j o : Nat), rl[j]? = some o → G0.rv (2000000000 + j) = G.rv o) := by
 have hrow : ∀ (j o : Nat), rl[j]? = some o → ∃ r : Rw, rs[j]? = some r ∧ st (.rw o) = .row r.ks r.e r.bytes r.xs false := by
  intro j o ho
  have hlt : j < rs.length := by have := (List.getElem?_eq_some_iff.1 ho).1; omega
  obtain ⟨o', ho', h⟩ := hrs j rs[j] (List.getElem?_eq_getElem hlt)
  rw [ho] at ho'; obtain rfl := Option.some.inj ho'
  exact ⟨_, List.getElem?_eq_getElem hlt, h⟩
 have hok := al2 hbl hrl
 have hcb : ∀ (j o : Nat), bl[j]? = some o → Cn.bx o (2000000000 + j) ∈ bxC 0 bl ++ rwC 0 rl := fun j o h => List.mem_append_left _ (uQ.2 ⟨j, o, h, by simp⟩)
 have hcr : ∀ (j o : Nat), rl[j]? = some o → Cn.rw o (2000000000 + j) ∈ bxC 0 bl ++ rwC 0 rl := fun j o h => List.mem_append_right _ (uO.2 ⟨j, o, h, by simp⟩)
 have hold : ∀ x ∈ bxC 0 bl ++ rwC 0 rl, m9 st x := by
  intro x hx
  rcases List.mem_append.1 hx with h | h
  ·obtain ⟨j, o, _, rfl⟩ := uQ.1 h; trivial
  ·obtain ⟨j, o, ho, rfl⟩ := uO.1 h
   obtain ⟨r, _, h⟩ := hrow j o ho
   exact ⟨_, _, _, _, h⟩
 generalize hc : bxC 0 bl ++ rwC 0 rl = c at *
 have hnil : nils c = [] := by rw [← hc]; exact aj9 bl rl
 have hnofz : ∀ o, Cn.fz o ∉ c := by
  intro o h
  rw [← hc] at h
  rcases List.mem_append.1 h with h | h
  ·obtain ⟨_, _, _, e⟩ := uQ.1 h; cases e
  ·obtain ⟨_, _, _, e⟩ := uO.1 h; cases e
 generalize hS : inSto bs rs = S at *
 have look := fun l => (hS ▸ wJ bs rs l : S l = .none ∨ (∃ (j : Nat) (r : Rw), rs[j]? = some r ∧ l = .rw (2000000000 + j) ∧ S l = .row r.ks r.e r.bytes r.xs false) ∨
  (∃ (j : Nat) (b : Bx), bs[j]? = some b ∧ l = .bx (2000000000 + j) ∧ S l = .bx b.t b.cells.length) ∨
  (∃ (j : Nat) (b : Bx) (i : Nat) (x : AV), bs[j]? = some b ∧ b.cells[i]? = some x ∧ l = .bc (2000000000 + j) i ∧ S l = .av x))
 have sat := Gh.acV G (fun n => iJ (S (.rw n))) hok (N := []) (by simp [hnil])
 have hrel := afM (m := 0) (N := []) (lb' := fun k => (G.cut c [] fun n => iJ (S (.rw n))).bb (2000000000 + k)) (S := S) (a' := act0) R hok (by simp [hnil]) (by simp) hold rfl rfl ?_ ?_ ?_ ?_ ?_ (fun _ _ _ _ => rfl) ?_
 ·generalize hG1 : (G.cut c [] fun n => iJ (S (.rw n))) = G1 at *
  have hG1F : ∀ k, G1.F k ↔ G.F k := by
   intro k; subst hG1
   exact ⟨fun h => h.elim id (fun ⟨o, ho, _⟩ => absurd ho (hnofz o)), fun h => .inl h⟩
  have hG1rs : ∀ n, G1.rs n = iJ (S (.rw n)) := by intro n; subst hG1; rfl
  have hblk : ∀ l k, blk G1 S l = some k → (∃ (j o : Nat), bl[j]? = some o ∧ blk G st (.bx o) = some k) ∨ (∃ (j o : Nat), rl[j]? = some o ∧ blk G st (.rw o) = some k) := by
   intro l k h
   cases l with
   | tm i => simp [blk] at h
   | bc i j => simp [blk] at h
   | bx n =>
    rcases look (.bx n) with q | ⟨_, _, _, q, _⟩ | ⟨j, b, q1, q2, q3⟩ | ⟨_, _, _, _, _, _, q, _⟩
    ·simp [blk, q] at h
    ·cases q
    ·injection q2 with q2; subst q2
     obtain ⟨o, ho, hB⟩ := hbs j b q1
     simp only [blk, q3, Option.some.injEq] at h
     exact .inl ⟨j, o, ho, by simp only [blk, hB.bx]; rw [← h, sat.bx o _ (hcb j o ho)]⟩
    ·cases q
   | rw n =>
    rcases look (.rw n) with q | ⟨j, r, q1, q2, q3⟩ | ⟨_, _, _, q, _⟩ | ⟨_, _, _, _, _, _, q, _⟩
    ·simp [blk, q] at h
    ·injection q2 with q2; subst q2
     obtain ⟨o, ho, hrr⟩ := hrs j r q1
     simp only [blk, q3] at h
     exact .inr ⟨j, o, ho, by simp only [blk, hrr]; rw [← h, sat.rw o _ (hcr j o ho)]⟩
    ·cases q
    ·cases q
   | it n =>
    rcases look (.it n) with q | ⟨_, _, _, q, _⟩ | ⟨_, _, _, q, _⟩ | ⟨_, _, _, _, _, _, q, _⟩
    ·simp [blk, q] at h
    ·cases q
    ·cases q
    ·cases q
  have h2 := hrel.fT (f := F1) (fun k hk => by
   obtain ⟨r, hr, hbk⟩ := hF1 k hk
   obtain ⟨_, o2, o3⟩ := R.own _ k hbk
   refine ⟨o2, .inr o3, fun l hl => ?_⟩
   rcases hblk l k hl with ⟨j, o, ho, h⟩ | ⟨j, o, ho, h⟩
   ·have := R.inj _ _ _ h hbk; cases this
   ·have := R.inj _ _ _ h hbk
    injection this with e; subst e
    exact hr (List.mem_of_getElem? ho))
  refine ⟨G1.fT F1, ⟨?_, ?_, ?_⟩, fun k => by simp only [Gh.fT, hG1F], fun j o ho => sat.bx o _ (hcb j o ho), fun j o ho => sat.rw o _ (hcr j o ho)⟩
  ·have : inSto bs rs = S := hS
   rw [this]
   refine ⟨⟨rfl, rfl, rfl, Nat.le_refl _, fun _ _ _ => rfl, fun k h => h, h2.base.Flt, fun k h => .inl h⟩, rfl, rfl, h2.tm, h2.bx, h2.bc, h2.rw, h2.it, h2.reg, h2.inj, fun l k hl => ?_, h2.rv1, fun _ _ _ _ => rfl⟩
   obtain ⟨o1, o2, _⟩ := h2.own l k hl
   exact ⟨o1, o2, .inr ⟨l, by rw [this]; exact hl⟩⟩
  ·refine hA.ren (fun k hk => ?_) (fun l hl => ?_)
   ·rcases hk with hk | hk
    ·exact .inl ((hG1F k).2 hk)
    ·exact .inr hk
   ·rcases hrefs l hl with ⟨b, hb', rfl⟩ | ⟨r, hr', rfl⟩
    ·exact sat.bx b _ (hcb _ _ (w8 hb'))
    ·obtain ⟨q, hq1, hq2⟩ := hrow _ _ (w8 hr')
     refine ⟨sat.rw r _ (hcr _ _ (w8 hr')), ?_⟩
     have : (G1.fT F1).rs (2000000000 + idx r rl) = iJ (S (.rw (2000000000 + idx r rl))) := hG1rs _
     rw [this, ← hS, ahm bs rs hq1]
     exact (R.rw r _ _ _ _ _ hq2).1.symm
  ·intro l hl
   rw [pM] at hl
   obtain ⟨l0, hl0, rfl⟩ := List.mem_map.1 hl
   have e : inSto bs rs = S := hS
   rcases hrefs l0 hl0 with ⟨b, hb', rfl⟩ | ⟨r, hr', rfl⟩
   ·have hj : idx b bl < bs.length := by have := (List.getElem?_eq_some_iff.1 (w8 hb')).1; omega
    simp only [ach]
    rw [ahO bs rs (List.getElem?_eq_getElem hj)]; simp
   ·obtain ⟨q, hq1, hq2⟩ := hrow _ _ (w8 hr')
    simp only [ach]
    rw [ahm bs rs hq1]; simp
 ·intro i v hv
  rcases look (.tm i) with q | ⟨_, _, _, q, _⟩ | ⟨_, _, _, q, _⟩ | ⟨_, _, _, _, _, _, q, _⟩
  ·rw [q] at hv; cases hv
  ·cases q
  ·cases q
  ·cases q
 ·intro n t k hv
  rcases look (.bx n) with q | ⟨_, _, _, q, _⟩ | ⟨j, b, q1, q2, q3⟩ | ⟨_, _, _, _, _, _, q, _⟩
  ·rw [q] at hv; cases hv
  ·cases q
  ·injection q2 with q2; subst q2
   rw [q3] at hv; injection hv with e1 e2; subst e1; subst e2
   obtain ⟨o, ho, hB⟩ := hbs j b q1
   exact ⟨o, hcb j o ho, hB.bx⟩
  ·cases q
 ·intro n i v hv
  rcases look (.bc n i) with q | ⟨_, _, _, q, _⟩ | ⟨_, _, _, q, _⟩ | ⟨j, b, i', x, q1, q2, q3, q4⟩
  ·rw [q] at hv; cases hv
  ·cases q
  ·cases q
  ·injection q3 with e1 e2; subst e1; subst e2
   rw [q4] at hv; injection hv with hv; subst hv
   obtain ⟨o, ho, hB⟩ := hbs j b q1
   obtain ⟨arr, m1, m2, m3⟩ := hB.mem
   obtain ⟨u, hu, hau⟩ := m3.get q2
   have hnr : x.refs = [] := by
    refine List.eq_nil_iff_forall_not_mem.2 (fun l hl => ?_)
    have := kX q2 hl
    rw [hB.flat] at this; cases this
   refine ⟨o, b.t, b.cells.length, arr, u, hcb j o ho, ?_, m1, by rw [Array.getElem?_toList] at hu; exact hu, Sat.pP hau hnr sat, (List.all_eq_true.1 hB.one) _ (List.mem_of_getElem? q2)⟩
   rw [← hS]; exact ahO bs rs q1
 ·intro n ks e b xs fz hv
  rcases look (.rw n) with q | ⟨j, r, q1, q2, q3⟩ | ⟨_, _, _, q, _⟩ | ⟨_, _, _, _, _, _, q, _⟩
  ·rw [q] at hv; cases hv
  ·injection q2 with q2; subst q2
   rw [q3] at hv
   injection hv with e1 e2 e3 e4 e5
   subst e1; subst e2; subst e3; subst e4; subst e5
   obtain ⟨o, ho, hrr⟩ := hrs j r q1
   exact ⟨rfl, .inl ⟨o, hcr j o ho, hrr⟩⟩
  ·cases q
  ·cases q
 ·intro n s p hv
  rcases look (.it n) with q | ⟨_, _, _, q, _⟩ | ⟨_, _, _, q, _⟩ | ⟨_, _, _, _, _, _, q, _⟩
  ·rw [q] at hv; cases hv
  ·cases q
  ·cases q
  ·cases q
 ·intro l v hv l' hl'
  rcases look l with q | ⟨j, r, q1, q2, q3⟩ | ⟨j, b, q1, q2, q3⟩ | ⟨j, b, i', x, q1, q2, q3, q4⟩
  ·rw [q] at hv; cases hv
  ·rw [q3] at hv; cases hv
  ·rw [q3] at hv; cases hv
  ·rw [q4] at hv; injection hv with hv; subst hv
   obtain ⟨o, ho, hB⟩ := hbs j b q1
   have := kX q2 hl'
   rw [hB.flat] at this; cases this
end
end PX
set_option linter.unusedVariables false
set_option linter.unusedSimpArgs false
namespace PX
open Go
section
variable {P : Program} {E : Env} {Γ : Fun} {X : Ctx} {G : Gh} {st : Sto} {a : Act} {w : World} {tr : Tr} {po : PO}
theorem Rel.anq (R : Rel X G st a w) {d : Nat} (hd : st (.bx d) = .none) (hlt9 : d < 1000000000) {g : Nat} {t : TypeId} {cs : List AV} {vs : List Value} (hh : w.heap[g]? = some (.cells ⟨vs⟩ t (0, 0)))
  (hg : ¬ G.F g ∧ g < w.heap.size ∧ (X.B ≤ g ∨ X.M g)) (hnotlive : ∀ l, blk G st l ≠ some g) (hv : AVRs G w cs vs) (h1 : cs.all AV.one = true) (hr : ∀ l ∈ AV.refsL cs, st l ≠ .none) :
  Rel X (G.fG d g) (cF d 0 cs (st.upd (.bx d) (.bx t cs.length))) a w := by
 have R' := R
 have hag : ∀ l, st l ≠ .none → fX G (G.fG d g) l := by
  intro l hl
  cases l <;> simp only [fX, Gh.fG]
  ·rename_i n
   have : n ≠ d := by rintro rfl; exact hl hd
   simp [this]
  ·simp
 have hs : lW G.F w w := fun _ _ => rfl
 have hA : ∀ {x : AV} {u : Value}, AVR G w x u → (∀ l ∈ x.refs, st l ≠ .none) → AVR (G.fG d g) w x u := fun hx hr => AVR.mono (G := G) (G' := G.fG d g) (fun _ h => h) (fun _ _ => rfl) hx (fun l hl => hag l (hr l hl))
 have hlk : ∀ l, (∀ o', l ≠ .bc d o') → l ≠ .bx d → cF d 0 cs (st.upd (.bx d) (.bx t cs.length)) l = st l := by
  intro l h2 h3
  rw [cZ _ _ _ _ h2, aP _ _ (Ne.symm h3)]
 have hbd : cF d 0 cs (st.upd (.bx d) (.bx t cs.length)) (.bx d) = .bx t cs.length := by rw [cZ _ _ _ _ (by simp)]; simp
 have hnew := hh
 have hblk : ∀ l k, blk (G.fG d g) (cF d 0 cs (st.upd (.bx d) (.bx t cs.length))) l = some k → (blk G st l = some k ∧ l ≠ .bx d) ∨ (l = .bx d ∧ k = g) := by
  intro l k hl
  by_cases e' : l = .bx d
  ·subst e'; right; simp only [blk, hbd, Gh.fG, if_true, Option.some.injEq] at hl; exact ⟨rfl, hl.symm⟩
  ·left
   refine ⟨?_, e'⟩
   cases l <;> simp only [blk] at hl ⊢
   ·exact hl
   ·exact hl
   ·rename_i n
    rw [hlk _ (by simp) e'] at hl
    have : n ≠ d := by rintro rfl; exact e' rfl
    simp only [Gh.fG, this, if_false] at hl
    exact hl
   ·rw [hlk _ (by simp) (by simp)] at hl; exact hl
   ·rw [hlk _ (by simp) (by simp)] at hl; exact hl
 refine ⟨R'.base, R'.defers, R'.sz, ?_, ?_, ?_, ?_, ?_, ?_, ?_, ?_, R.rv1, fun k t n hb => by
  rw [cZ _ _ _ _ (by simp), aP _ _ (by simp; omega)] at hb
  have hne : 2000000000 + k ≠ d := by omega
  simp only [Gh.fG, if_neg hne]
  exact R.lent k _ _ hb⟩
 ·intro i x hx
  rw [hlk _ (by simp) (by simp)] at hx
  obtain ⟨h2, h3⟩ := R'.tm i x hx
  exact ⟨h2, hA h3 (R.reg _ _ hx)⟩
 ·intro b t' n hb
  by_cases e : b = d
  ·subst e
   rw [hbd] at hb
   injection hb with e1 e2
   subst e1; subst e2
   exact ⟨_, by simp only [Gh.fG, if_true]; exact hnew, by simpa using hv.length.symm⟩
  ·rw [hlk _ (by simp) (by simp; exact e)] at hb
   obtain ⟨cs', h2, h3⟩ := R'.bx b t' n hb
   exact ⟨cs', by simpa [Gh.fG, e] using h2, h3⟩
 ·intro b o x hb
  by_cases e : b = d
  ·subst e
   rw [cR] at hb
   simp only at hb
   split at hb
   ·rename_i hlt
    injection hb with hb
    subst hb
    have hlt' : o < cs.length := by have := hlt.2.2; omega
    have hget : cs[o]? = some (cs.getD (o - 0) .dead) := by simp [List.getD_eq_getElem?_getD, List.getElem?_eq_getElem hlt']
    obtain ⟨u, hu, hau⟩ := hv.get hget
    refine ⟨t, cs.length, ⟨vs⟩, u, hbd, by simp only [Gh.fG, if_true]; exact hnew, by simpa using hu, ?_, ?_⟩
    ·have hregx : ∀ l ∈ (cs.getD (o - 0) AV.dead).refs, st l ≠ .none := fun l hl => hr l (pV hl (List.mem_of_getElem? hget))
     exact hA (hau.mono (fun _ h => h) hs (fun l _ => by cases l <;> simp [fX])) hregx
    ·exact (List.all_eq_true.1 h1) _ (List.mem_of_getElem? hget)
   ·rw [aP _ _ (by simp)] at hb
    obtain ⟨t', n, _, _, h2, _⟩ := R.bc b o x hb
    rw [hd] at h2; cases h2
  ·rw [hlk _ (by simp; exact fun h => absurd h e) (by simp)] at hb
   obtain ⟨t', n, cs', u, h2, h3, h4, h5, h6⟩ := R'.bc b o x hb
   exact ⟨t', n, cs', u, by rw [hlk _ (by simp) (by simp; exact e)]; exact h2, by simpa [Gh.fG, e] using h3, h4, hA h5 (R.reg _ _ hb), h6⟩
 ·intro r ks e by_ xs fz hb
  rw [hlk _ (by simp) (by simp)] at hb
  exact R'.rw r ks e by_ xs fz hb
 ·intro i s p hb
  rw [hlk _ (by simp) (by simp)] at hb
  exact R'.it i s p hb
 ·intro l x hl l' hl'
  have key : st l' ≠ .none → cF d 0 cs (st.upd (.bx d) (.bx t cs.length)) l' ≠ .none := by
   intro hn
   cases l' with
   | bc b o =>
    rw [cR]
    simp only
    split
    ·simp
    ·rw [aP _ _ (by simp)]; exact hn
   | bx n =>
    by_cases e : n = d
    ·subst e; rw [hbd]; simp
    ·rw [hlk _ (by simp) (by simp; exact e)]; exact hn
   | tm i => rw [hlk _ (by simp) (by simp)]; exact hn
   | rw i => rw [hlk _ (by simp) (by simp)]; exact hn
   | it i => rw [hlk _ (by simp) (by simp)]; exact hn
  by_cases hbcd : ∃ o, l = .bc d o ∧ o < cs.length
  ·obtain ⟨o, rfl, ho⟩ := hbcd
   rw [cR] at hl
   simp only [true_and, Nat.zero_le, Nat.zero_add, ho, if_true, Nat.sub_zero, LV.av.injEq] at hl
   subst hl
   apply key
   have hget : cs[o]? = some (cs.getD o .dead) := by simp [List.getD_eq_getElem?_getD, List.getElem?_eq_getElem ho]
   exact hr l' (pV hl' (List.mem_of_getElem? hget))
  ·apply key
   have hl2 : st l = .av x := by
    rw [cR] at hl
    cases l with
    | bc b' o' =>
     simp only at hl
     split at hl
     ·rename_i hh; exact absurd ⟨o', by rw [hh.1], by omega⟩ hbcd
     ·rw [aP _ _ (by simp)] at hl; exact hl
    | bx n =>
     simp only at hl
     by_cases e : n = d
     ·subst e; simp at hl
     ·rw [aP _ _ (by simp; exact fun h => e h.symm)] at hl; exact hl
    | _ => simp only at hl; rw [aP _ _ (by simp)] at hl; exact hl
   exact R.reg l x hl2 l' hl'
 ·intro l l' k h2 h3
  rcases hblk l k h2 with ⟨h4, _⟩ | ⟨rfl, h4⟩ <;> rcases hblk l' k h3 with ⟨h5, _⟩ | ⟨rfl, h5⟩
  ·exact R.inj l l' k h4 h5
  ·subst h5; exact absurd h4 (hnotlive l)
  ·subst h4; exact absurd h5 (hnotlive l')
  ·rfl
 ·intro l k h2
  rcases hblk l k h2 with ⟨h4, _⟩ | ⟨rfl, h4⟩
  ·exact R'.own l k h4
  ·subst h4
   exact hg
theorem Rel.called (R : Rel X G st a w) {w' : World} {Fs D : Nat → Prop} {bl : List Nat} {S : Sto} (hos : w'.os = w.os) (htape : w'.tape = w.tape) (hout : w'.output = w.output) (hsz : w.heap.size ≤ w'.heap.size)
  (hkeep : ∀ k, k < w.heap.size → (∀ b ∈ bl, G.bb b ≠ k) → ¬ D k → w'.heap[k]? = w.heap[k]?)
  (hD : ∀ k, D k → (X.B ≤ k ∨ X.M k) ∧ ¬ G.F k ∧ ∀ l, blk G st l ≠ some k)
  (hF1 : ∀ k, G.F k → Fs k) (hF2 : ∀ k, Fs k → k < w'.heap.size ∧ (X.F0 k ∨ X.B ≤ k ∨ X.M k)) (hF3 : ∀ l k, blk G st l = some k → ¬ Fs k)
  (hbl : ∀ b ∈ bl, ∃ t n, st (.bx b) = .bx t n)
  (hS : ∀ l, (∀ b ∈ bl, ∀ i, l ≠ .bc b i) → S l = st l) (hSn : ∀ b ∈ bl, ∀ i, st (.bc b i) ≠ .none → S (.bc b i) ≠ .none)
  (hnb : ∀ b ∈ bl, ∀ t n, st (.bx b) = .bx t n → ∃ arr : Array Value, w'.heap[G.bb b]? = some (.cells arr t (0, 0)) ∧ arr.size = n)
  (hnc : ∀ b ∈ bl, ∀ i x, S (.bc b i) = .av x → ∃ (t n : Nat) (arr : Array Value) (u : Value), st (.bx b) = .bx t n ∧ w'.heap[G.bb b]? = some (.cells arr t (0, 0)) ∧ arr[i]? = some u ∧ AVR (G.lS Fs) w' x u ∧ x.one = true ∧ x.refs = []) :
  Rel X (G.lS Fs) S a w' := by
 have hlive : ∀ b ∈ bl, blk G st (.bx b) = some (G.bb b) := by
  intro b hb
  obtain ⟨t, n, h⟩ := hbl b hb
  simp [blk, h]
 have hs : lW G.F w w' := by
  intro k hk
  exact hkeep k (R.base.Flt k hk) (fun b hb e => (R.own _ _ (hlive b hb)).1 (e ▸ hk)) (fun hd => (hD k hd).2.1 hk)
 have hnew : ∀ l k, blk G st l = some k → (∀ b ∈ bl, l ≠ .bx b) → w'.heap[k]? = w.heap[k]? := by
  intro l k hl hne
  exact hkeep k (R.own _ _ hl).2.1 (fun b hb e => hne b hb (R.inj _ _ _ hl (e ▸ hlive b hb))) (fun hd => (hD k hd).2.2 l hl)
 have hA : ∀ {x : AV} {u : Value}, AVR G w x u → AVR (G.lS Fs) w' x u := fun hx => AVR.mono (G := G) (G' := G.lS Fs) hF1 hs hx (fun l _ => by cases l <;> simp [fX, Gh.lS])
 have hSb : ∀ n, S (.bx n) = st (.bx n) := fun n => hS _ (fun _ _ _ => by simp)
 have hSr : ∀ n, S (.rw n) = st (.rw n) := fun n => hS _ (fun _ _ _ => by simp)
 have hSi : ∀ n, S (.it n) = st (.it n) := fun n => hS _ (fun _ _ _ => by simp)
 have hSt : ∀ n, S (.tm n) = st (.tm n) := fun n => hS _ (fun _ _ _ => by simp)
 have hblk : ∀ l, blk (G.lS Fs) S l = blk G st l := by
  intro l
  cases l <;> simp only [blk, hSb, hSr, hSi, Gh.lS]
 have hSnone : ∀ l, st l ≠ .none → S l ≠ .none := by
  intro l hl
  by_cases hb : ∃ b ∈ bl, ∃ i, l = .bc b i
  ·obtain ⟨b, hb, i, rfl⟩ := hb
   exact hSn b hb i hl
  ·rw [hS l (fun b hb' i e => hb ⟨b, hb', i, e⟩)]; exact hl
 refine ⟨⟨hos.trans R.base.os, htape.trans R.base.tape, hout.trans R.base.output, Nat.le_trans R.base.size hsz, fun k hk hm => ?_, fun k hk => hF1 k (R.base.F0 k hk), fun k hk => (hF2 k hk).1, fun k hk => (hF2 k hk).2⟩, R.defers, R.sz, ?_, ?_, ?_, ?_, ?_, ?_, ?_, ?_, R.rv1, ?_⟩
 ·rw [hkeep k (Nat.lt_of_lt_of_le hk R.base.size) (fun b hb e => ?_) (fun hd => ?_), R.base.keep k hk hm]
  ·rcases (R.own _ _ (hlive b hb)).2.2 with h | h
   ·omega
   ·exact hm (e ▸ h)
  ·rcases (hD k hd).1 with h | h
   ·omega
   ·exact hm h
 ·intro i v hv
  rw [hSt] at hv
  obtain ⟨h1, h2⟩ := R.tm i v hv
  exact ⟨h1, hA h2⟩
 ·intro b t n hb
  rw [hSb] at hb
  by_cases hm : b ∈ bl
  ·exact hnb b hm t n hb
  ·obtain ⟨cs, h1, h2⟩ := R.bx b t n hb
   refine ⟨cs, ?_, h2⟩
   show w'.heap[G.bb b]? = _
   rw [hnew (.bx b) (G.bb b) (by simp [blk, hb]) (fun b' hb' e => hm (by injection e with e; rw [e]; exact hb'))]; exact h1
 ·intro b o v hb
  by_cases hm : b ∈ bl
  ·obtain ⟨t, n, arr, u, h1, h2, h3, h4, h5, _⟩ := hnc b hm o v hb
   exact ⟨t, n, arr, u, by rw [hSb]; exact h1, h2, h3, h4, h5⟩
  ·rw [hS _ (fun b' hb' i e => hm (by injection e with e; rw [e]; exact hb'))] at hb
   obtain ⟨t, n, cs, u, h1, h2, h3, h4, h5⟩ := R.bc b o v hb
   refine ⟨t, n, cs, u, by rw [hSb]; exact h1, ?_, h3, hA h4, h5⟩
   show w'.heap[G.bb b]? = _
   rw [hnew (.bx b) (G.bb b) (by simp [blk, h1]) (fun b' hb' e => hm (by injection e with e; rw [e]; exact hb'))]; exact h2
 ·intro r ks e by_ xs fz hr
  rw [hSr] at hr
  obtain ⟨h1, h2, h3, h4, h5⟩ := R.rw r _ _ _ _ _ hr
  refine ⟨h1, h2, h3, h4.mono hF1 hs (fun g hg => ?_), fun h g hg => hF1 g (h5 h g hg)⟩
  cases fz with
  | true => exact hs g (h5 rfl g hg)
  | false => exact hnew (.rw r) g (by simp [blk, hr, hg]) (fun _ _ => by simp)
 ·intro i s p hi
  rw [hSi] at hi
  show w'.heap[G.ib i]? = _
  rw [hnew (.it i) (G.ib i) (by simp [blk, hi]) (fun _ _ => by simp)]
  exact R.it i s p hi
 ·intro l v hl l' hl'
  by_cases hb : ∃ b ∈ bl, ∃ i, l = .bc b i
  ·obtain ⟨b, hb, i, rfl⟩ := hb
   obtain ⟨_, _, _, _, _, _, _, _, _, h6⟩ := hnc b hb i v hl
   rw [h6] at hl'; cases hl'
  ·rw [hS l (fun b hb' i e => hb ⟨b, hb', i, e⟩)] at hl
   exact hSnone l' (R.reg l v hl l' hl')
 ·intro l l' k h1 h2
  rw [hblk] at h1 h2
  exact R.inj l l' k h1 h2
 ·intro l k h1
  rw [hblk] at h1
  obtain ⟨_, h3, h4⟩ := R.own l k h1
  exact ⟨hF3 l k h1, Nat.lt_of_lt_of_le h3 hsz, h4⟩
 ·intro k t n hb
  rw [hSb] at hb
  exact R.lent k t n hb
end
end PX
set_option linter.unusedVariables false
set_option linter.unusedSimpArgs false
namespace PX
open Go
section
variable {P : Program} {E : Env} {Γ : Fun} {X : Ctx} {G : Gh} {st : Sto} {a : Act} {w : World} {tr : Tr} {po : PO}
theorem abt : ∀ {bl : List Nat} {xs : List Bx} {c : Pr} {st : Sto} {tr : Tr}, bl.Nodup → prE Γ (sH bl xs c) st tr = some po →
  ∃ S tr', (∀ (j b : Nat), bl[j]? = some b → ∃ x, xs[j]? = some x ∧ st (.bx b) = .bx x.t x.cells.length ∧ ∀ (i : Nat) (v : AV), i < x.cells.length → S (.bc b i) = .av v → x.cells[i]? = some v) ∧
   (∀ l, (∀ b ∈ bl, ∀ i, l ≠ .bc b i) → S l = st l) ∧ (∀ b ∈ bl, ∀ i, st (.bc b i) ≠ .none → S (.bc b i) ≠ .none) ∧
   (∀ b ∈ bl, ∀ i v, S (.bc b i) = .av v → ∃ v', st (.bc b i) = .av v') ∧ prE Γ c S tr' = some po
 | [], xs, c, st, tr, hn, h => ⟨st, tr, by simp, fun _ _ => rfl, by simp, by simp, by simpa [sH] using h⟩
 | b :: bl, [], c, st, tr, hn, h => by simp [sH, prE] at h
 | b :: bl, x :: xs, c, st, tr, hn, h => by
  simp only [sH, prE] at h
  split at h
  ·rename_i t n hb
   obtain ⟨hc, h1⟩ := bS h
   simp only [Bool.and_eq_true] at hc
   have e1 := Nat.eq_of_beq_eq_true hc.1
   have e2 := Nat.eq_of_beq_eq_true hc.2
   obtain ⟨tr1, hex, h2⟩ := yU h1
   obtain ⟨hnb, hnd⟩ := List.nodup_cons.1 hn
   obtain ⟨S, tr2, q1, q2, q3, q4, q5⟩ := abt hnd h2
   have hbS : ∀ i, S (.bc b i) = cF b 0 x.cells st (.bc b i) := fun i => q2 _ (fun b' hb' i' e => hnb (by injection e with e; rw [e]; exact hb'))
   have hsame : ∀ l, (∀ i, l ≠ .bc b i) → cF b 0 x.cells st l = st l := fun l hl => cZ _ _ _ _ hl
   refine ⟨S, tr2, fun j b' hj => ?_, fun l hl => ?_, fun b' hb' i hi => ?_, fun b' hb' i v hv => ?_, h2' q5⟩
   ·cases j with
    | zero =>
     obtain rfl : b = b' := by simpa using hj
     refine ⟨x, by simp, by rw [hb, e1, e2], fun i v hi hv => ?_⟩
     rw [hbS, cR] at hv
     simp only [true_and, Nat.zero_le, Nat.zero_add, hi, if_true, Nat.sub_zero, LV.av.injEq] at hv
     rw [← hv]
     simp [List.getD_eq_getElem?_getD, List.getElem?_eq_getElem hi]
    | succ j =>
     obtain ⟨x', h3, h4, h5⟩ := q1 j b' (by simpa using hj)
     exact ⟨x', by simpa using h3, by rw [hsame _ (by simp)] at h4; exact h4, h5⟩
   ·rw [q2 l (fun b' hb' => hl b' (by simp [hb'])), hsame l (hl b (by simp))]
   ·rcases List.mem_cons.1 hb' with rfl | hm
    ·rw [hbS, cR]
     simp only
     split
     ·simp
     ·exact hi
    ·refine q3 b' hm i ?_
     rw [hsame _ (fun i' e => hnb (by injection e with e; rw [← e]; exact hm))]
     exact hi
   ·rcases List.mem_cons.1 hb' with rfl | hm
    ·rw [hbS, cR] at hv
     simp only at hv
     split at hv
     ·rename_i hh
      obtain ⟨y, hy⟩ := hex i (by omega)
      rw [Nat.zero_add] at hy
      exact ⟨y, hy⟩
     ·exact ⟨v, hv⟩
    ·have := q4 b' hm i v hv
     rw [hsame _ (fun i' e => hnb (by injection e with e; rw [← e]; exact hm))] at this
     exact this
  ·exact (aY h).elim
where h2' {p : Prop} (h : p) : p := h
structure apy (X : Ctx) (G : Gh) (st : Sto) (w : World) (b : Bx) (g : Nat) : Prop where
 mem : ∃ vs : List Value, w.heap[g]? = some (.cells ⟨vs⟩ b.t (0, 0)) ∧ AVRs G w b.cells vs
 own : ¬ G.F g ∧ g < w.heap.size ∧ (X.B ≤ g ∨ X.M g)
 live : ∀ l, blk G st l ≠ some g
 one : b.cells.all AV.one = true
 flat : AV.refsL b.cells = []
theorem acg : ∀ {bs : List Bx} {base : Nat} {c : Pr} {G : Gh} {st : Sto} {tr : Tr} (gb : Nat → Nat), Rel X G st a w → prE Γ (xO base bs c) st tr = some po →
  (∀ (j : Nat) (b : Bx), bs[j]? = some b → apy X G st w b (gb j)) → (∀ i j, i < bs.length → j < bs.length → gb i = gb j → i = j) →
  ∃ G' S tr', Rel X G' S a w ∧ G'.F = G.F ∧ G'.rv = G.rv ∧ G'.rs = G.rs ∧ G'.ib = G.ib ∧ (∀ n, st (.bx n) ≠ .none → G'.bb n = G.bb n) ∧ (∀ j, j < bs.length → G'.bb (base + j) = gb j) ∧
   (∀ l, st l ≠ .none → S l ≠ .none) ∧ (∀ j, j < bs.length → S (.bx (base + j)) ≠ .none) ∧ (∀ l, (∀ n, l ≠ .bx n) → (∀ n i, l ≠ .bc n i) → S l = st l) ∧
   (∀ l k, blk G' S l = some k → blk G st l = some k ∨ ∃ j, j < bs.length ∧ k = gb j) ∧ prE Γ c S tr' = some po
 | [], base, c, G, st, tr, gb, R, h, hN, hinj => ⟨G, st, tr, R, rfl, rfl, rfl, rfl, fun _ _ => rfl, by simp, fun _ h => h, by simp, fun _ _ _ => rfl, fun l k h => .inl h, h⟩
 | b :: bs, base, c, G, st, tr, gb, R, h, hN, hinj => by
  obtain ⟨hf, hlt, tr1, h1⟩ := abc (show prE Γ (vL base (.put (.bx base) (.bx b.t b.cells.length) (qF base 0 b.cells (xO (base + 1) bs c)))) st tr = some po from h)
  simp only [prE] at h1
  obtain ⟨tr2, h2⟩ := tN (Γ := Γ) base 0 b.cells (xO (base + 1) bs c) (st.upd (.bx base) (.bx b.t b.cells.length)) (tr1.1, .bx base :: tr1.2)
  rw [h2] at h1
  have n0 := hN 0 b (by simp)
  obtain ⟨vs, hm, hv⟩ := n0.mem
  have R1 := R.anq hf hlt (t := b.t) hm n0.own n0.live hv n0.one (by rw [n0.flat]; simp)
  have hS1 : ∀ l, l ≠ .bx base → (∀ i, l ≠ .bc base i) → cF base 0 b.cells (st.upd (.bx base) (.bx b.t b.cells.length)) l = st l := by
   intro l h3 h4
   rw [cZ _ _ _ _ h4, aP _ _ (Ne.symm h3)]
  have hbase : cF base 0 b.cells (st.upd (.bx base) (.bx b.t b.cells.length)) (.bx base) = .bx b.t b.cells.length := by
   rw [cZ _ _ _ _ (by simp)]; simp
  have hblk1 : ∀ l k, blk (G.fG base (gb 0)) (cF base 0 b.cells (st.upd (.bx base) (.bx b.t b.cells.length))) l = some k → blk G st l = some k ∨ k = gb 0 := by
   intro l k hl
   by_cases e : l = .bx base
   ·subst e
    simp only [blk, hbase, Gh.fG, if_true, Option.some.injEq] at hl
    exact .inr hl.symm
   ·left
    cases l <;> simp only [blk] at hl ⊢
    ·exact hl
    ·exact hl
    ·rename_i n
     rw [hS1 _ e (by simp)] at hl
     have : n ≠ base := by rintro rfl; exact e rfl
     simp only [Gh.fG, this, if_false] at hl
     exact hl
    ·rw [hS1 _ (by simp) (by simp)] at hl; exact hl
    ·rw [hS1 _ (by simp) (by simp)] at hl; exact hl
  obtain ⟨G', S, tr3, q1, q2, q3, q4, q5, q6, q7, q8, q9, q10, q11, q12⟩ := acg (bs := bs) (base := base + 1) (fun j => gb (j + 1)) R1 h1 (fun j b' hj => by
   have nj := hN (j + 1) b' (by simpa using hj)
   obtain ⟨vs', hm', hv'⟩ := nj.mem
   refine ⟨⟨vs', hm', ?_⟩, nj.own, fun l hl => ?_, nj.one, nj.flat⟩
   ·exact AVRs.mono (G := G) (G' := G.fG base (gb 0)) (fun _ h => h) (fun _ _ => rfl) hv' (fun l hl => by rw [nj.flat] at hl; cases hl)
   ·rcases hblk1 l _ hl with h3 | h3
    ·exact nj.live l h3
    ·have hjl : j < bs.length := (List.getElem?_eq_some_iff.1 hj).1
     have := hinj (j + 1) 0 (by simp; omega) (by simp) h3
     omega) (fun i j hi hj e => by
   have := hinj (i + 1) (j + 1) (by simp; omega) (by simp; omega) e
   omega)
  have hne1 : ∀ l, st l ≠ .none → cF base 0 b.cells (st.upd (.bx base) (.bx b.t b.cells.length)) l ≠ .none := by
   intro l hl
   by_cases e : l = .bx base
   ·subst e; rw [hbase]; simp
   ·by_cases e2 : ∃ i, l = .bc base i
    ·obtain ⟨i, rfl⟩ := e2
     rw [cR]
     simp only
     split
     ·simp
     ·rw [aP _ _ (by simp)]; exact hl
    ·rw [hS1 l e (fun i e3 => e2 ⟨i, e3⟩)]; exact hl
  refine ⟨G', S, tr3, q1, q2, q3, q4, q5, fun n hn => ?_, fun j hj => ?_, fun l hl => q8 l (hne1 l hl), fun j hj => ?_, fun l h3 h4 => ?_, fun l k hl => ?_, q12⟩
  ·rw [q6 n (hne1 _ hn)]
   have : n ≠ base := by rintro rfl; exact hn hf
   simp [Gh.fG, this]
  ·cases j with
   | zero =>
    rw [Nat.add_zero, q6 base (by rw [hbase]; simp)]
    simp [Gh.fG]
   | succ j =>
    rw [show base + (j + 1) = base + 1 + j by omega]
    exact q7 j (by simp at hj; omega)
  ·cases j with
   | zero => exact q8 _ (by rw [Nat.add_zero, hbase]; simp)
   | succ j =>
    rw [show base + (j + 1) = base + 1 + j by omega]
    exact q9 j (by simp at hj; omega)
  ·rw [q10 l h3 h4, hS1 l (h3 base) (h4 base)]
  ·rcases q11 l k hl with h3 | ⟨j, hj, e⟩
   ·rcases hblk1 l k h3 with h4 | h4
    ·exact .inl h4
    ·exact .inr ⟨0, by simp, h4⟩
   ·exact .inr ⟨j + 1, by simp; omega, e⟩
structure apv (X : Ctx) (G : Gh) (st : Sto) (w : World) (r : Rw) (v : Value) : Prop where
 data : r.ks.all CK.isData = true
 pos : 0 < r.ks.length
 val : RowV G.F w r.ks r.e r.xs v
 own : ∀ g, rowBlk v = some g → ¬ G.F g ∧ g < w.heap.size ∧ (X.B ≤ g ∨ X.M g) ∧ ∀ l, blk G st l ≠ some g
theorem adm : ∀ {rs : List Rw} {base : Nat} {c : Pr} {G : Gh} {st : Sto} {tr : Tr} (gv : Nat → Value), Rel X G st a w → prE Γ (acH base rs c) st tr = some po →
  (∀ (j : Nat) (r : Rw), rs[j]? = some r → apv X G st w r (gv j)) → (∀ i j g, i < rs.length → j < rs.length → rowBlk (gv i) = some g → rowBlk (gv j) = some g → i = j) →
  ∃ G' S tr', Rel X G' S a w ∧ G'.F = G.F ∧ G'.bb = G.bb ∧ G'.ib = G.ib ∧ (∀ (j : Nat) (r : Rw), rs[j]? = some r → G'.rv (base + j) = gv j ∧ G'.rs (base + j) = r.ks.length) ∧
   (∀ l, st l ≠ .none → S l ≠ .none ∧ fX G G' l) ∧ (∀ j, j < rs.length → S (.rw (base + j)) ≠ .none) ∧ prE Γ c S tr' = some po
 | [], base, c, G, st, tr, gv, R, h, hN, hinj => ⟨G, st, tr, R, rfl, rfl, rfl, by simp, fun l h => ⟨h, by cases l <;> simp [fX]⟩, by simp, h⟩
 | r :: rs, base, c, G, st, tr, gv, R, h, hN, hinj => by
  obtain ⟨hf, tr1, h1⟩ := vX (show prE Γ (fresh (.rw base) (.put (.rw base) (.row r.ks r.e r.bytes r.xs false) (acH (base + 1) rs c))) st tr = some po from h)
  simp only [prE] at h1
  have n0 := hN 0 r (by simp)
  have R1 := R.ae9 hf (by_ := r.bytes) n0.data n0.pos n0.val n0.own
  have hblk1 : ∀ l k, blk (G.iQ base (gv 0) r.ks.length) (st.upd (.rw base) (.row r.ks r.e r.bytes r.xs false)) l = some k → blk G st l = some k ∨ rowBlk (gv 0) = some k := by
   intro l k hl
   by_cases e' : l = .rw base
   ·subst e'; right; simp [blk, Gh.iQ] at hl; exact hl
   ·left
    cases l <;> simp only [blk] at hl ⊢
    ·exact hl
    ·exact hl
    ·rw [aP _ _ (by simp)] at hl; exact hl
    ·rename_i n
     rw [aP _ _ (Ne.symm e')] at hl
     have : n ≠ base := by rintro rfl; exact e' rfl
     simp only [Gh.iQ, this, if_false] at hl
     exact hl
    ·rw [aP _ _ (by simp)] at hl; exact hl
  obtain ⟨G', S, tr3, q1, q2, q3, q4, q5, q6, q7, q8⟩ := adm (rs := rs) (base := base + 1) (fun j => gv (j + 1)) R1 h1 (fun j r' hj => by
   have nj := hN (j + 1) r' (by simpa using hj)
   refine ⟨nj.data, nj.pos, nj.val, fun g hg => ?_⟩
   obtain ⟨o1, o2, o3, o4⟩ := nj.own g hg
   refine ⟨o1, o2, o3, fun l hl => ?_⟩
   rcases hblk1 l g hl with h3 | h3
   ·exact o4 l h3
   ·have hjl : j < rs.length := (List.getElem?_eq_some_iff.1 hj).1
    have := hinj (j + 1) 0 g (by simp; omega) (by simp) hg h3
    omega) (fun i j g hi hj h3 h4 => by
   have := hinj (i + 1) (j + 1) g (by simp; omega) (by simp; omega) h3 h4
   omega)
  refine ⟨G', S, tr3, q1, q2, q3, q4, fun j r' hj => ?_, fun l hl => ?_, fun j hj => ?_, q8⟩
  ·cases j with
   | zero =>
    obtain rfl : r = r' := by simpa using hj
    obtain ⟨_, h3⟩ := q6 (.rw base) (by simp)
    simp only [fX, Gh.iQ, if_true] at h3
    exact h3
   | succ j =>
    rw [show base + (j + 1) = base + 1 + j by omega]
    exact q5 j r' (by simpa using hj)
  ·have hl1 : (st.upd (.rw base) (.row r.ks r.e r.bytes r.xs false)) l ≠ .none := by
    by_cases e : Loc.rw base = l
    ·subst e; simp
    ·rw [aP _ _ e]; exact hl
   obtain ⟨h3, h4⟩ := q6 l hl1
   refine ⟨h3, ?_⟩
   cases l <;> simp only [fX] at h4 ⊢
   ·exact h4
   ·rename_i n
    have : n ≠ base := by rintro rfl; exact hl hf
    simp only [Gh.iQ, this, if_false] at h4
    exact h4
   ·exact h4
  ·cases j with
   | zero => exact (q6 (.rw base) (by simp)).1
   | succ j =>
    rw [show base + (j + 1) = base + 1 + j by omega]
    exact q7 j (by simp at hj; omega)
end
end PX
set_option linter.unusedVariables false
set_option linter.unusedSimpArgs false
namespace PX
open Go
theorem aaw {n i : Nat} : ∀ (bs : List Bx) (B : Nat) (s : Sto), n < B → bO B bs s (.bc n i) = s (.bc n i)
 | [], B, s, h => rfl
 | y :: bs, B, s, h => by
  simp only [bO]
  rw [aaw bs (B + 1) _ (by omega), cZ _ _ _ _ (by simp; omega), aP _ _ (by simp)]
theorem ac9 : ∀ (bs : List Bx) (B : Nat) (s : Sto) {j : Nat} {b : Bx} {i : Nat} {x : AV}, bs[j]? = some b → b.cells[i]? = some x → bO B bs s (.bc (B + j) i) = .av x
 | [], B, s, j, b, i, x, h, hx => by simp at h
 | y :: bs, B, s, 0, b, i, x, h, hx => by
  obtain rfl : y = b := by simpa using h
  simp only [bO, Nat.add_zero]
  have hlt := (List.getElem?_eq_some_iff.1 hx).1
  rw [aaw _ _ _ (by omega), cR]
  simp only [true_and, Nat.zero_le, Nat.zero_add, hlt, if_true, Nat.sub_zero]
  simp [List.getD_eq_getElem?_getD, hx]
 | y :: bs, B, s, j + 1, b, i, x, h, hx => by
  simp only [bO]
  rw [show B + (j + 1) = B + 1 + j by omega]
  exact ac9 bs (B + 1) _ (by simpa using h) hx
theorem zQ (bs : List Bx) (rs : List Rw) {j : Nat} {b : Bx} (h : bs[j]? = some b) : outSto bs rs (.bx j) = .bx b.t b.cells.length := by
 unfold outSto
 rcases mO rs 0 (bO 0 bs Sto.nil) (.bx j) with h1 | ⟨_, _, _, h2, _⟩
 ·have := oX bs 0 Sto.nil h
  rw [Nat.zero_add] at this
  rw [h1, this]
 ·cases h2
theorem akK (bs : List Bx) (rs : List Rw) {j : Nat} {b : Bx} {i : Nat} {x : AV} (h : bs[j]? = some b) (hx : b.cells[i]? = some x) : outSto bs rs (.bc j i) = .av x := by
 unfold outSto
 rcases mO rs 0 (bO 0 bs Sto.nil) (.bc j i) with h1 | ⟨_, _, _, h2, _⟩
 ·have := ac9 bs 0 Sto.nil h hx
  rw [Nat.zero_add] at this
  rw [h1, this]
 ·cases h2
theorem vY (bs : List Bx) (rs : List Rw) {j : Nat} {r : Rw} (h : rs[j]? = some r) : outSto bs rs (.rw j) = .row r.ks r.e r.bytes r.xs false := by
 unfold outSto
 have := zN rs 0 (bO 0 bs Sto.nil) h
 rwa [Nat.zero_add] at this
theorem adf (bs : List Bx) (rs : List Rw) (l : Loc) (h : outSto bs rs l ≠ .none) : (∃ j, j < rs.length ∧ l = .rw j) ∨ (∃ j, j < bs.length ∧ l = .bx j) ∨ (∃ j i, l = .bc j i) := by
 unfold outSto at h
 rcases mO rs 0 (bO 0 bs Sto.nil) l with h1 | ⟨j, r, h1, h2, h3⟩
 ·rcases lN bs 0 Sto.nil l with h2 | ⟨j, b, q1, q2, q3⟩ | ⟨j, b, i, x, q1, q2, q3, q4⟩
  ·rw [h1, h2] at h; exact absurd rfl h
  ·exact .inr (.inl ⟨j, (List.getElem?_eq_some_iff.1 q1).1, by rw [q2, Nat.zero_add]⟩)
  ·exact .inr (.inr ⟨_, i, q3⟩)
 ·exact .inl ⟨j, (List.getElem?_eq_some_iff.1 h1).1, by rw [h2, Nat.zero_add]⟩
def yT : CK → Bool
 | .sl _ => false
 | _ => true
section
variable {P : Program} {E : Env} {Γ : Fun} {X : Ctx} {G : Gh} {st : Sto} {a : Act} {w : World} {tr : Tr} {po : PO}
theorem DR.yT {F F' : Nat → Prop} {k : CK} {d : D} {v : Value} (h : DR F w k d v) (hk : yT k = true) : DR F' w k d v := by
 cases h with
 | int k n => exact .int k n
 | bool b => exact .bool b
 | str s => exact .str s
 | sl => simp [PX.yT] at hk
theorem RowV.yT {F F' : Nat → Prop} {ks : List CK} {e : TypeId} {xs : List (List D)} {v : Value} (h : RowV F w ks e xs v) (hk : ks.all PX.yT = true) : RowV F' w ks e xs v := by
 cases h with
 | zero he h =>
  obtain ⟨h1, h2⟩ := h
  refine .zero he ⟨h1, ?_⟩
  rcases h2 with h2 | ⟨g, c, cur, rfl, hc, hh, h3, h4, h5, h6⟩
  ·exact .inl h2
  ·exact .inr ⟨g, c, cur, rfl, hc, hh, h3, h4, h5, fun j el i d k a b cc => by
    obtain ⟨u, hu, hd⟩ := h6 j el i d k a b cc
    exact ⟨u, hu, hd.yT ((List.all_eq_true.1 hk) k (List.mem_of_getElem? cc))⟩⟩
 | any e0 he h =>
  obtain ⟨h1, h2⟩ := h
  refine .any e0 he ⟨h1, ?_⟩
  rcases h2 with h2 | ⟨g, o, c, cur, rfl, hc, hh, h3, h4, h5, h6⟩
  ·exact .inl h2
  ·exact .inr ⟨g, o, c, cur, rfl, hc, hh, h3, h4, h5, fun j el i d k a b cc => by
    obtain ⟨u, hu, hd⟩ := h6 j el i d k a b cc
    exact ⟨u, hu, hd.yT ((List.all_eq_true.1 hk) k (List.mem_of_getElem? cc))⟩⟩
mutual
theorem akc : ∀ (s : Sh), Sh.leads s = false → ∀ p ∈ Sh.rows s, p.1.all PX.yT = true
 | .row r ks e b, h, p, hp => by
  simp only [Sh.rows, List.mem_singleton] at hp
  subst hp
  simp only [Sh.leads, List.any_eq_false] at h
  rw [List.all_eq_true]
  intro k hk
  have := h k hk
  cases k <;> simp_all [PX.yT]
 | .agg ss, h, p, hp => aaf ss (by simpa [Sh.leads] using h) p (by simpa [Sh.rows] using hp)
 | .int _, _, p, hp => by simp [Sh.rows] at hp
 | .bool, _, p, hp => by simp [Sh.rows] at hp
 | .str, _, p, hp => by simp [Sh.rows] at hp
 | .sl _, _, p, hp => by simp [Sh.rows] at hp
 | .win _, _, p, hp => by simp [Sh.rows] at hp
 | .ptr _ _, _, p, hp => by simp [Sh.rows] at hp
 | .it _, _, p, hp => by simp [Sh.rows] at hp
 | .nilp, _, p, hp => by simp [Sh.rows] at hp
 | .fn _ _ _, _, p, hp => by simp [Sh.rows] at hp
 | .ifc _ _, _, p, hp => by simp [Sh.rows] at hp
 | .any, _, p, hp => by simp [Sh.rows] at hp
theorem aaf : ∀ (ss : List Sh), Sh.mI ss = false → ∀ p ∈ Sh.vE ss, p.1.all PX.yT = true
 | [], _, p, hp => by simp [Sh.vE] at hp
 | s :: ss, h, p, hp => by
  simp only [Sh.mI, Bool.or_eq_false_iff] at h
  simp only [Sh.vE, List.mem_append] at hp
  rcases hp with hp | hp
  ·exact akc s h.1 p hp
  ·exact aaf ss h.2 p hp
end
theorem agd : ∀ {l : List (List CK × TypeId × Nat)} {rs : List Rw}, xX l rs = rs → ∀ r ∈ rs, ∃ p ∈ l, r.ks = p.1
 | [], rs, h, r, hr => by
  have : rs = [] := h.symm
  subst this; cases hr
 | (ks, e, b) :: l, rs, h, r, hr => by
  cases rs with
  | nil => cases hr
  | cons x rs =>
   simp only [xX, List.tail_cons, List.cons.injEq] at h
   rcases List.mem_cons.1 hr with rfl | hr
   ·exact ⟨(ks, e, b), by simp, by have := congrArg Rw.ks h.1; exact this.symm⟩
   ·obtain ⟨p, hp, e'⟩ := agd h.2 r hr
    exact ⟨p, by simp [hp], e'⟩
theorem aeZ : ∀ {l : List (TypeId × List Sh)} {bs : List Bx}, sJ l bs = bs → ∀ b ∈ bs, ∃ p ∈ l, Sh.coL p.2 b.cells = b.cells
 | [], bs, h, b, hb => by
  have : bs = [] := h.symm
  subst this; cases hb
 | (t, ss) :: l, bs, h, b, hb => by
  cases bs with
  | nil => cases hb
  | cons x bs =>
   simp only [sJ, List.tail_cons, List.cons.injEq, List.head?_cons, Option.map_some, Option.getD_some] at h
   rcases List.mem_cons.1 hb with rfl | hb
   ·exact ⟨(t, ss), by simp, by have := congrArg Bx.cells h.1; exact this⟩
   ·obtain ⟨p, hp, e'⟩ := aeZ h.2 b hb
    exact ⟨p, by simp [hp], e'⟩
theorem afD {X' : Ctx} {G' : Gh} {w' : World} {obs : List Bx} {ors : List Rw} (R : Rel X' G' (outSto obs ors) act0 w') {j : Nat} {b : Bx} (hj : obs[j]? = some b) :
  (∃ vs : List Value, w'.heap[G'.bb j]? = some (.cells ⟨vs⟩ b.t (0, 0)) ∧ vs.length = b.cells.length ∧ AVRs G' w' b.cells vs) ∧ b.cells.all AV.one = true := by
 have hb := zQ obs ors hj
 obtain ⟨arr, h1, h2⟩ := R.bx j _ _ hb
 have hc : ∀ i x, b.cells[i]? = some x → outSto obs ors (.bc j (0 + i)) = .av x := fun i x hx => by rw [Nat.zero_add]; exact akK obs ors hj hx
 obtain ⟨vs, h3, h4⟩ := uU R (b := j) (off := 0) hc
 have hl : vs.length = b.cells.length := h3.length.symm
 have hva : vs = arr.toList := by
  apply List.ext_getElem?
  intro i
  by_cases hi : i < b.cells.length
  ·have h5 := h4 i (vs[i]'(by omega)) (List.getElem?_eq_getElem _)
   rw [cell_of_row w' _ _ arr b.t (0, 0) h1, Nat.zero_add] at h5
   rw [List.getElem?_eq_getElem (by omega), Array.getElem?_toList, h5]
  ·rw [List.getElem?_eq_none (by omega), List.getElem?_eq_none (by simp; omega)]
 subst hva
 exact ⟨⟨arr.toList, h1, by simpa using h2, h3⟩, AVRs.afl R hc⟩
theorem aeS {G0 : Gh} {bl rl : List Nat} {bs : List Bx} {rs : List Rw} (hb : bs.length = bl.length) (hr : rs.length = rl.length)
  (h1 : ∀ (j o : Nat), bl[j]? = some o → G0.bb (2000000000 + j) = G.bb o) (h2 : ∀ (j o : Nat), rl[j]? = some o → G0.rv (2000000000 + j) = G.rv o) {k : Nat} (h : ∃ l, blk G0 (inSto bs rs) l = some k) :
  (∃ j o : Nat, bl[j]? = some o ∧ k = G.bb o) ∨ (∃ j o : Nat, rl[j]? = some o ∧ rowBlk (G.rv o) = some k) := by
 obtain ⟨l, h⟩ := h
 cases l with
 | tm i => simp [blk] at h
 | bc i j => simp [blk] at h
 | bx n =>
  rcases wJ bs rs (.bx n) with q | ⟨_, _, _, q, _⟩ | ⟨j, b, q1, q2, q3⟩ | ⟨_, _, _, _, _, _, q, _⟩
  ·simp [blk, q] at h
  ·cases q
  ·injection q2 with q2; subst q2
   have hlt : j < bl.length := by have := (List.getElem?_eq_some_iff.1 q1).1; omega
   simp only [blk, q3, Option.some.injEq] at h
   exact .inl ⟨j, bl[j], List.getElem?_eq_getElem hlt, by rw [← h, h1 j _ (List.getElem?_eq_getElem hlt)]⟩
  ·cases q
 | rw n =>
  rcases wJ bs rs (.rw n) with q | ⟨j, r, q1, q2, q3⟩ | ⟨_, _, _, q, _⟩ | ⟨_, _, _, _, _, _, q, _⟩
  ·simp [blk, q] at h
  ·injection q2 with q2; subst q2
   have hlt : j < rl.length := by have := (List.getElem?_eq_some_iff.1 q1).1; omega
   simp only [blk, q3] at h
   exact .inr ⟨j, rl[j], List.getElem?_eq_getElem hlt, by rw [← h2 j _ (List.getElem?_eq_getElem hlt)]; exact h⟩
  ·cases q
  ·cases q
 | it n =>
  rcases wJ bs rs (.it n) with q | ⟨_, _, _, q, _⟩ | ⟨_, _, _, q, _⟩ | ⟨_, _, _, _, _, _, q, _⟩
  ·simp [blk, q] at h
  ·cases q
  ·cases q
  ·cases q
end
end PX
set_option linter.unusedVariables false
set_option linter.unusedSimpArgs false
namespace PX
open Go
section
variable {P : Program} {E : Env} {Γ : Fun} {X : Ctx} {G : Gh} {st : Sto} {a : Act} {w : World} {tr : Tr} {po : PO}
def ai3 (X : Ctx) (a : Act) (po : PO) : Ending → World → Prop
 | .returned v, w' => ∃ av S tr' G', po = .val av S tr' ∧ Rel X G' S a w' ∧ AVR G' w' av v ∧ ∀ l ∈ av.refs, S l ≠ .none
 | .panicked chain, w' => ∃ v S, po = .pan v S ∧ abX X S a v chain w'
 | .outgrown, _ => False
mutual
theorem aga : ∀ (x : AV) (b i : Nat), Loc.bc b i ∉ x.refs
 | .d _, b, i => by simp [AV.refs]
 | .dead, b, i => by simp [AV.refs]
 | .undf, b, i => by simp [AV.refs]
 | .anyb, b, i => by simp [AV.refs]
 | .nil, b, i => by simp [AV.refs]
 | .nilp, b, i => by simp [AV.refs]
 | .nilf, b, i => by simp [AV.refs]
 | .nili, b, i => by simp [AV.refs]
 | .ptr _ _, b, i => by simp [AV.refs]
 | .ep _ _ _, b, i => by simp [AV.refs]
 | .rp _ _ _, b, i => by simp [AV.refs]
 | .row _, b, i => by simp [AV.refs]
 | .win _ _ _, b, i => by simp [AV.refs]
 | .agg cs, b, i => by simp only [AV.refs]; exact qH cs b i
 | .tup cs, b, i => by simp only [AV.refs]; exact qH cs b i
 | .fn f x y, b, i => by simp only [AV.refs, List.mem_append, not_or]; exact ⟨qH x b i, qH y b i⟩
 | .it _, b, i => by simp [AV.refs]
 | .ifc t v, b, i => by simp only [AV.refs]; exact aga v b i
theorem qH : ∀ (xs : List AV) (b i : Nat), Loc.bc b i ∉ AV.refsL xs
 | [], b, i => by simp [AV.refsL]
 | x :: xs, b, i => by simp only [AV.refsL, List.mem_append, not_or]; exact ⟨aga x b i, qH xs b i⟩
end
theorem anE {G : Gh} {l : List AV} {us : List Value} (h : AVRs G w l us) : AVR G w (ahg l) (pack us) := by
 cases h with
 | nil => exact .tup _ _ .nil
 | cons x u xs us h hs =>
  cases hs with
  | nil => exact h
  | cons y v ys vs h2 hs2 => exact .tup _ _ (.cons _ _ _ _ h (.cons _ _ _ _ h2 hs2))
theorem ajX (l : List AV) : (ahg l).refs = AV.refsL l := by
 rcases l with _ | ⟨x, _ | ⟨y, l⟩⟩ <;> simp [ahg, AV.refs, AV.refsL]
theorem aeR {v : AV} : ∀ {bl : List Nat} {st : Sto} {tr : Tr} {po : PO}, prE Γ (ab4 bl (.pan v)) st tr = some po → ∃ S, po = .pan v S ∧ (∀ b ∈ bl, S (.bx b) = .none) ∧ ∀ l, (∀ b ∈ bl, l ≠ .bx b) → S l = st l
 | [], st, tr, po, h => by
  simp only [ab4, prE, Option.some.injEq] at h
  exact ⟨st, h.symm, by simp, fun _ _ => rfl⟩
 | b :: r, st, tr, po, h => by
  simp only [ab4, prE] at h
  obtain ⟨S, h1, h2, h3⟩ := aeR h
  refine ⟨S, h1, fun x hx => ?_, fun l hl => ?_⟩
  ·by_cases hr : x ∈ r
   ·exact h2 x hr
   ·have e : x = b := by rcases List.mem_cons.1 hx with e | e; exact e; exact absurd e hr
    subst e
    rw [h3 _ (fun b' hb' e => by injection e with e; exact hr (e ▸ hb'))]
    simp
  ·rw [h3 l (fun b' hb' => hl b' (by simp [hb']))]
   exact aP _ _ (Ne.symm (hl b (by simp)))
theorem aaR (hG : tW P E Γ) (R : Rel X G st a w) {as : List AV} {vs : List Value} {F1 : Nat → Prop} (hA : AVRs (G.fT F1) w as vs) {d : Nat} {f : FuncId} {ss : List Sh} {tbs : List (TypeId × List Sh)} {rl : List Nat}
  (htm : E.tm f = some (ss, tbs)) (hrl : rl.Nodup) (hF1 : ∀ k, F1 k → ∃ r, r ∉ rl ∧ blk G st (.rw r) = some k)
  (hlead : (∀ k, ¬ F1 k) ∨ (Sh.mI ss = false ∧ (∀ b ∈ tbs, Sh.mI b.2 = false) ∧ E.vr f = []))
  (h : prE Γ (aal E d f ss tbs as rl) st tr = some po) : Calls P f ⟨vs⟩ w (ai3 X a po) := by
 unfold aal at h
 obtain ⟨hrefs, h1⟩ := bS h
 generalize hblE : sC as = bl at h1
 have hbln : bl.Nodup := by rw [← hblE]; exact vF (by simp)
 obtain ⟨Gc, st1, bs, tr1, R1, g1, t1, hbl, hbs, h2⟩ := abo R h1
 obtain ⟨st2, rs, tr2, R2, hrs, hrs', hoff, hgone, h3⟩ := abK R1 h2
 simp only [prE] at h3
 split at h3
 case h_2 => cases h3
 rename_i o hΓ
 have hA' : AVRs (Gc.fT fun k => F1 k ∧ ∃ r, r ∉ rl ∧ blk Gc st1 (.rw r) = some k) w as vs := by
  refine AVRs.mono (fun k hk => ?_) (fun _ _ => rfl) hA (fun l _ => by cases l <;> simp [fX, Gh.fT, g1.bb, g1.rv, g1.rs, g1.ib])
  rcases hk with hk | hk
  ·exact .inl (g1.F k hk)
  ·obtain ⟨r, hr, hb⟩ := hF1 k hk
   simp only [blk] at hb
   split at hb
   ·rename_i ks e by_ xs hrow
    rcases t1.row r with h' | ⟨ks', e', b', xs', fz', h', h''⟩
    ·exact .inr ⟨hk, r, hr, by simp only [blk, h', hrow, g1.rv]; exact hb⟩
    ·obtain ⟨_, _, _, _, q5⟩ := R1.rw r _ _ _ _ _ h''
     exact .inl (q5 rfl k (by rw [g1.rv]; exact hb))
   ·cases hb
 have hrefs' : ∀ l ∈ AV.refsL as, (∃ b ∈ bl, l = .bx b) ∨ (∃ r ∈ rl, l = .rw r) := by
  intro l hl
  have := (List.all_eq_true.1 hrefs) l hl
  cases l with
  | bx b => exact .inl ⟨b, by rw [← hblE]; exact aiL.2 hl, rfl⟩
  | rw r => exact .inr ⟨r, any_beq.1 this, rfl⟩
  | tm i => cases this
  | bc i j => cases this
  | it i => cases this
 obtain ⟨G0, hE, hF0, hbb, hrv⟩ := aoM R1 hbln hrl hbl hbs hrs hrs' (fun k hk => hk.2) hA' hrefs'
 have hbox : ∀ (j o : Nat), bl[j]? = some o → ∃ b : Bx, bs[j]? = some b ∧ aj2 Gc st1 w o b := by
  intro j o ho
  have hlt : j < bs.length := by have := (List.getElem?_eq_some_iff.1 ho).1; omega
  obtain ⟨o', ho', hB⟩ := hbs j bs[j] (List.getElem?_eq_getElem hlt)
  rw [ho] at ho'; obtain rfl := Option.some.inj ho'
  exact ⟨_, List.getElem?_eq_getElem hlt, hB⟩
 have hrow : ∀ (j o : Nat), rl[j]? = some o → ∃ r : Rw, rs[j]? = some r ∧ st1 (.rw o) = .row r.ks r.e r.bytes r.xs false := by
  intro j o ho
  have hlt : j < rs.length := by have := (List.getElem?_eq_some_iff.1 ho).1; omega
  obtain ⟨o', ho', hB⟩ := hrs' j rs[j] (List.getElem?_eq_getElem hlt)
  rw [ho] at ho'; obtain rfl := Option.some.inj ho'
  exact ⟨_, List.getElem?_eq_getElem hlt, hB⟩
 have hblkB : ∀ (j o : Nat), bl[j]? = some o → blk Gc st1 (.bx o) = some (Gc.bb o) := fun j o ho => by
  obtain ⟨b, _, hB⟩ := hbox j o ho
  simp [blk, hB.bx]
 have hblkR : ∀ (j o k : Nat), rl[j]? = some o → rowBlk (Gc.rv o) = some k → blk Gc st1 (.rw o) = some k := fun j o k ho hk => by
  obtain ⟨r, _, hr⟩ := hrow j o ho
  simp [blk, hr, hk]
 have hM : ∀ k, (entCtx w G0 bs rs).M k → (X.B ≤ k ∨ X.M k) ∧ ¬ Gc.F k := by
  intro k hk
  rcases aeS hbl hrs hbb hrv hk with ⟨j, o, ho, rfl⟩ | ⟨j, o, ho, hk⟩
  ·have := R1.own _ _ (hblkB j o ho); exact ⟨this.2.2, this.1⟩
  ·have := R1.own _ _ (hblkR j o k ho hk); exact ⟨this.2.2, this.1⟩
 have hF0' : ∀ k, G0.F k → Gc.F k ∨ X.B ≤ k ∨ X.M k := by
  intro k hk
  rcases (hF0 k).1 hk with hk | ⟨_, r, _, hb⟩
  ·exact .inl hk
  ·exact .inr (R1.own _ _ hb).2.2
 refine Calls.mono (hG f _ bs rs o hΓ w G0 vs hE) (fun e w' hp => ?_)
 cases e with
 | outgrown => exact hp.elim
 | panicked chain =>
  obtain ⟨hco, v, rfl, G', u, hch, hv, hb⟩ := hp
  obtain ⟨sh, hpv, hcv, _⟩ := hco
  simp only [hpv, prE, Out.ajS, Out.an3, hcv] at h3
  obtain ⟨S, rfl, hS1, hS2⟩ := aeR h3
  have hkF : ∀ k, Gc.F k → w'.heap[k]? = w.heap[k]? := fun k hk => hb.keep k (R1.base.Flt k hk) (fun hm => (hM k hm).2 hk)
  have hkX : ∀ k, k < X.B → ¬ X.M k → w'.heap[k]? = w.heap[k]? := fun k hk hm => hb.keep k (Nat.lt_of_lt_of_le hk R1.base.size) (fun hm' => by
   rcases (hM k hm').1 with h' | h'
   ·omega
   ·exact hm h')
  have hkB : ∀ b t n, g4 S (.bx b) = .bx t n → w'.heap[Gc.bb b]? = w.heap[Gc.bb b]? := fun b t n h => by
   have h := acd h
   have hnb : b ∉ bl := fun hbl' => by rw [hS1 b hbl'] at h; cases h
   rw [hS2 _ (fun b' hb' e => by injection e with e; exact hnb (e ▸ hb'))] at h
   have hbk : blk Gc st2 (.bx b) = some (Gc.bb b) := by simp [blk, h]
   obtain ⟨_, o2, _⟩ := R2.own _ _ hbk
   refine hb.keep _ o2 (fun hm => ?_)
   have hne : ∀ o ∈ rl, Loc.bx b ≠ .rw o := fun _ _ => by simp
   have hbk1 : blk Gc st1 (.bx b) = some (Gc.bb b) := by
    rw [hoff _ hne] at h
    simp [blk, h]
   rcases aeS hbl hrs hbb hrv hm with ⟨j, o, ho, e⟩ | ⟨j, o, ho, hk⟩
   ·have := R1.inj _ _ _ hbk1 (by rw [e]; exact hblkB j o ho)
    injection this with this
    exact hnb (this ▸ List.mem_of_getElem? ho)
   ·have := R1.inj _ _ _ hbk1 (hblkR j o _ ho hk)
    cases this
  refine ⟨v, S, rfl, G', Gc, u, hch, hv, ?_, R2.part hb.os hb.tape hb.output hb.size hkX hkF hkB (fun l x h => ?_) (fun b t n h => ?_) (fun _ => rfl) (fun _ => rfl)⟩
  rotate_left
  ·obtain ⟨q1, ⟨q2, b, o, q3, t, n, q4⟩ | ⟨i, b, o, q3, q4, t, n, q5⟩⟩ := agf h
   ·exact ⟨by rw [← q1, hS2 _ (fun b' _ e => by rw [q3] at e; cases e)], .inl ⟨q2, b, o, q3, t, n, zF q4⟩⟩
   ·exact ⟨by rw [← q1, hS2 _ (fun b' _ e => by rw [q3] at e; cases e)], .inr ⟨i, b, o, q3, q4, t, n, zF q5⟩⟩
  ·have h := acd h
   have hnb : b ∉ bl := fun hbl' => by rw [hS1 b hbl'] at h; cases h
   rw [hS2 _ (fun b' hb' e => by injection e with e; exact hnb (e ▸ hb'))] at h
   exact h
  refine ⟨hb.os.trans R1.base.os, hb.tape.trans R1.base.tape, hb.output.trans R1.base.output, Nat.le_trans R1.base.size hb.size, fun k hk hm => ?_, fun k hk => hb.F0 k ((hF0 k).2 (.inl (R1.base.F0 k hk))), hb.Flt, fun k hk => ?_⟩
  ·rw [hb.keep k (Nat.lt_of_lt_of_le hk R1.base.size) (fun hm' => by
    rcases (hM k hm').1 with h' | h'
    ·omega
    ·exact hm h')]
   exact R1.base.keep k hk hm
  ·rcases hb.Fnew k hk with h' | h' | h'
   ·rcases hF0' k h' with h'' | h''
    ·exact R1.base.Fnew k h''
    ·exact .inr h''
   ·exact .inr (.inl (Nat.le_trans R1.base.size h'))
   ·exact .inr (hM k h').1
 | returned v =>
  obtain ⟨hco, res, obs, ors, us, G4, rfl, rfl, hf⟩ := hp
  obtain ⟨x', ss', tbs', htm', hshp, c1, c2, c3, c4, c5, c6⟩ := hco
  rw [htm] at htm'
  simp only [Option.some.injEq] at htm'
  subst htm'
  have hlead : (∀ k, ¬ F1 k) ∨ (Sh.mI ss' = false ∧ ∀ b ∈ tbs', Sh.mI b.2 = false) := by
   rcases hlead with hl | ⟨hl1, hl2, hl3⟩
   ·exact .inl hl
   ·have e : qX (E.vr f) (ss, tbs) res = (ss, tbs) := by rw [hl3]; unfold qX; cases keyOf res <;> rfl
    rw [e] at hshp
    simp only [Prod.mk.injEq] at hshp
    obtain ⟨rfl, rfl⟩ := hshp
    exact .inr ⟨hl1, hl2⟩
  have e1 : (qX (E.vr f) (ss, tbs) res).1 = ss' := by rw [hshp]
  have e2 : (qX (E.vr f) (ss, tbs) res).2 = tbs' := by rw [hshp]
  simp only [Out.res, e1, e2] at h3
  clear htm hshp e1 e2
  have hback : prE Γ (ad9 d ss' tbs' bl (.ret res obs ors)) st2 tr2 = some po := by
   split at h3
   ·exact h3
   ·simpa only [prE, Out.ajS] using h3
  unfold ad9 at hback
  simp only [Out.bxs, Out.rws, Out.res, c1, c2, c3] at hback
  obtain ⟨S1, tr3, b1, b2, b3, b4, h4⟩ := abt hbln hback
  have hX0 : ∀ k, k < bs.length → G4.bb k = G0.bb (2000000000 + k) := hf.boxes
  have hblk2 : ∀ l k, blk Gc st2 l = some k → blk Gc st1 l = some k ∧ ∀ o ∈ rl, l ≠ .rw o := by
   intro l k hl
   have hne : ∀ o ∈ rl, l ≠ .rw o := by
    rintro o ho rfl
    simp [blk, hgone o ho] at hl
   refine ⟨?_, hne⟩
   have e := hoff l hne
   cases l <;> simp only [blk] at hl ⊢ <;> first | exact hl | skip
   ·rw [hoff _ (by simp)] at hl; exact hl
   ·rw [e] at hl; exact hl
   ·rw [hoff _ (by simp)] at hl; exact hl
  have hlentF : ∀ (j o : Nat), bl[j]? = some o → ¬ G4.F (Gc.bb o) := by
   intro j o ho
   obtain ⟨b, hb, hB⟩ := hbox j o ho
   have hjl : j < bs.length := (List.getElem?_eq_some_iff.1 hb).1
   have hj : j < obs.length := by omega
   have hblk : blk G4 (outSto obs ors) (.bx j) = some (G4.bb j) := by simp [blk, zQ obs ors (List.getElem?_eq_getElem hj)]
   have := (hf.rel.own _ _ hblk).1
   rw [hX0 j hjl, hbb j o ho] at this
   exact this
  obtain ⟨Fs, f1, f2, f3, fv, fb, fr⟩ : ∃ Fs : Nat → Prop, (∀ k, Gc.F k → Fs k) ∧ (∀ k, Fs k → G4.F k) ∧ (∀ l k, blk Gc st2 l = some k → ¬ Fs k) ∧
    AVRs (G4.lS Fs) w' res us ∧ (∀ b ∈ obs, ∀ vs, AVRs G4 w' b.cells vs → AVRs (G4.lS Fs) w' b.cells vs) ∧ (∀ r ∈ ors, ∀ v, RowV G4.F w' r.ks r.e r.xs v → RowV Fs w' r.ks r.e r.xs v) := by
   have hG04 : ∀ k, Gc.F k → G4.F k := fun k hk => hf.rel.base.F0 k ((hF0 k).2 (.inl hk))
   rcases hlead with hno | ⟨hl1, hl2⟩
   ·refine ⟨G4.F, hG04, fun k h => h, fun l k hl hk => ?_, hf.rvs, fun _ _ _ h => h, fun _ _ _ h => h⟩
    obtain ⟨hl1, hne⟩ := hblk2 l k hl
    obtain ⟨o1, o2, o3⟩ := R1.own _ _ hl1
    rcases hf.rel.base.Fnew k hk with h' | h' | h'
    ·rcases (hF0 k).1 h' with h' | h'
     ·exact o1 h'
     ·exact hno k h'.1
    ·have : w.heap.size ≤ k := h'
     omega
    ·rcases aeS hbl hrs hbb hrv h' with ⟨j, o, ho, rfl⟩ | ⟨j, o, ho, hk'⟩
     ·exact hlentF j o ho hk
     ·have := R1.inj _ _ _ hl1 (hblkR j o k ho hk')
      exact hne o (List.mem_of_getElem? ho) this
   ·refine ⟨Gc.F, fun k h => h, hG04, fun l k hl => (R2.own l k hl).1, rX Gc.F ss' c1 hl1 hf.rvs, fun b hb vs hv => ?_, fun r hr v hv => ?_⟩
    ·obtain ⟨p, hp, hc⟩ := aeZ c2 b hb
     exact rX Gc.F p.2 hc (hl2 p hp) hv
    ·obtain ⟨p, hp, hc⟩ := agd c3 r hr
     exact hv.yT (by rw [hc]; exact aaf ss' hl1 p hp)
  have hoff' : ∀ l, (∀ r, l ≠ .rw r) → st2 l = st1 l := fun l hl => hoff l (fun o _ => hl o)
  have hnewF : ∀ k, G4.F k → X.F0 k ∨ X.B ≤ k ∨ X.M k := by
   intro k hk
   rcases hf.rel.base.Fnew k hk with h' | h' | h'
   ·rcases hF0' k h' with h'' | h''
    ·exact R1.base.Fnew k h''
    ·exact .inr h''
   ·exact .inr (.inl (Nat.le_trans R1.base.size h'))
   ·exact .inr (hM k h').1
  have hG4bb : ∀ (j o : Nat), bl[j]? = some o → G4.bb j = Gc.bb o := fun j o ho => by
   obtain ⟨b, hb, _⟩ := hbox j o ho
   rw [hX0 j (List.getElem?_eq_some_iff.1 hb).1, hbb j o ho]
  have hflat : ∀ {b : Bx} {i : Nat} {x : AV}, b ∈ obs → b.cells[i]? = some x → x.refs = [] := fun {b i x} hb hx => by
   refine List.eq_nil_iff_forall_not_mem.2 (fun l hl => ?_)
   have := kX hx hl
   rw [c6 b hb] at this; cases this
  have hb1 : ∀ (j b : Nat), bl[j]? = some b → ∃ x, obs[j]? = some x ∧ st2 (.bx b) = .bx x.t x.cells.length ∧ ∀ (i : Nat) (v : AV), i < x.cells.length → S1 (.bc b i) = .av v → x.cells[i]? = some v := by
   intro j b hj
   obtain ⟨x, h5, h6, h7⟩ := b1 j b hj
   rw [List.getElem?_take] at h5
   split at h5
   ·exact ⟨x, h5, h6, h7⟩
   ·cases h5
  have hown4 : ∀ l' g, blk G4 (outSto obs ors) l' = some g → (∀ j, j < bl.length → l' ≠ .bx j) → ¬ Fs g ∧ g < w'.heap.size ∧ (X.B ≤ g ∨ X.M g) ∧ ∀ l, blk Gc st2 l ≠ some g := by
   intro l' g hl hne
   obtain ⟨o1, o2, o3⟩ := hf.rel.own _ _ hl
   refine ⟨fun h => o1 (f2 g h), o2, ?_, fun l hl2 => ?_⟩
   ·rcases o3 with h' | h'
    ·exact .inl (Nat.le_trans R1.base.size h')
    ·exact (hM g h').1
   ·obtain ⟨hl1, hne1⟩ := hblk2 l g hl2
    rcases o3 with h' | h'
    ·have : w.heap.size ≤ g := h'
     have := (R1.own _ _ hl1).2.1
     omega
    ·rcases aeS hbl hrs hbb hrv h' with ⟨j, o, ho, rfl⟩ | ⟨j, o, ho, hk'⟩
     ·obtain ⟨b, hb, _⟩ := hbox j o ho
      have hjl : j < bs.length := (List.getElem?_eq_some_iff.1 hb).1
      have hbk : blk G4 (outSto obs ors) (.bx j) = some (Gc.bb o) := by
       rw [← hG4bb j o ho]
       simp [blk, zQ obs ors (List.getElem?_eq_getElem (show j < obs.length by omega))]
      exact hne j (by omega) (hf.rel.inj _ _ _ hl hbk)
     ·exact hne1 o (List.mem_of_getElem? ho) (R1.inj _ _ _ hl1 (hblkR j o g ho hk'))
  have R3 : Rel X (Gc.lS Fs) S1 a w' := by
   refine R2.called (D := fun k => ∃ j o : Nat, rl[j]? = some o ∧ rowBlk (Gc.rv o) = some k) (bl := bl) hf.rel.base.os hf.rel.base.tape hf.rel.base.output hf.rel.base.size (fun k hk h5 h6 => ?_) ?_ f1 (fun k hk => ⟨hf.rel.base.Flt k (f2 k hk), hnewF k (f2 k hk)⟩) f3 (fun b hb => ?_) b2 b3 (fun b hb t n hbx => ?_) (fun b hb i v hv => ?_)
   ·refine hf.rel.base.keep k hk (fun h' => ?_)
    rcases aeS hbl hrs hbb hrv h' with ⟨j, o, ho, e⟩ | ⟨j, o, ho, hk'⟩
    ·exact h5 o (List.mem_of_getElem? ho) e.symm
    ·exact h6 ⟨j, o, ho, hk'⟩
   ·rintro k ⟨j, o, ho, hk⟩
    have h5 := hblkR j o k ho hk
    obtain ⟨o1, o2, o3⟩ := R1.own _ _ h5
    refine ⟨o3, o1, fun l hl => ?_⟩
    obtain ⟨hl1, hne1⟩ := hblk2 l k hl
    exact hne1 o (List.mem_of_getElem? ho) (R1.inj _ _ _ hl1 h5)
   ·obtain ⟨j, hj⟩ := List.getElem?_of_mem hb
    obtain ⟨x, _, h6, _⟩ := hb1 j b hj
    exact ⟨_, _, h6⟩
   ·obtain ⟨j, hj⟩ := List.getElem?_of_mem hb
    obtain ⟨x, h5, h6, _⟩ := hb1 j b hj
    rw [hbx] at h6; injection h6 with e1 e2; subst e1; subst e2
    obtain ⟨⟨vs', m1, m2, m3⟩, _⟩ := afD hf.rel h5
    exact ⟨⟨vs'⟩, by rw [← hG4bb j b hj]; exact m1, by simpa using m2⟩
   ·obtain ⟨j, hj⟩ := List.getElem?_of_mem hb
    obtain ⟨x, h5, h6, h7⟩ := hb1 j b hj
    obtain ⟨v', hv'⟩ := b4 b hb i v hv
    obtain ⟨t', n', cs', u', y1, y2, y3, _⟩ := R2.bc b i v' hv'
    obtain ⟨cs2, y4, y5⟩ := R2.bx b t' n' y1
    rw [y2] at y4; injection y4 with y4; injection y4 with y4; subst y4
    rw [h6] at y1; injection y1 with e1 e2; subst e1; subst e2
    have hi : i < x.cells.length := by have := (Array.getElem?_eq_some_iff.1 y3).1; omega
    have hx := h7 i v hi hv
    obtain ⟨⟨vs', m1, m2, m3⟩, m4⟩ := afD hf.rel h5
    obtain ⟨u, hu, hau⟩ := (fb x (List.mem_of_getElem? h5) vs' m3).get hx
    have hr0 := hflat (List.mem_of_getElem? h5) hx
    refine ⟨x.t, x.cells.length, ⟨vs'⟩, u, h6, by rw [← hG4bb j b hj]; exact m1, by simpa using hu, ?_, (List.all_eq_true.1 m4) _ (List.mem_of_getElem? hx), hr0⟩
    exact AVR.mono (G := G4.lS Fs) (G' := Gc.lS Fs) (fun _ h => h) (fun _ _ => rfl) hau (fun l hl => by rw [hr0] at hl; cases hl)
  have hblk3 : ∀ l, blk (Gc.lS Fs) S1 l = blk Gc st2 l := by
   intro l
   cases l <;> simp only [blk, Gh.lS] <;> rw [b2 _ (by simp)]
  have hdrop : ∀ (j : Nat) (b : Bx), (obs.drop bl.length)[j]? = some b → obs[bl.length + j]? = some b := fun j b hj => by rw [List.getElem?_drop] at hj; exact hj
  have hblk4 : ∀ j, j < obs.length → blk G4 (outSto obs ors) (.bx j) = some (G4.bb j) := fun j hj => by simp [blk, zQ obs ors (List.getElem?_eq_getElem hj)]
  obtain ⟨G5, S5, tr5, R5, z1, z2, z3, z4, z5, z6, z7, z8, z9, z10, h5⟩ := acg (fun j => G4.bb (bl.length + j)) R3 h4 (fun j b hj => by
   have hj' := hdrop j b hj
   have hlt := (List.getElem?_eq_some_iff.1 hj').1
   obtain ⟨⟨vs', m1, m2, m3⟩, m4⟩ := afD hf.rel hj'
   obtain ⟨o1, o2, o3, o4⟩ := hown4 _ _ (hblk4 _ hlt) (fun i hi e => by injection e with e; omega)
   refine ⟨⟨vs', m1, ?_⟩, ⟨o1, o2, o3⟩, fun l => by rw [hblk3]; exact o4 l, m4, c6 b (List.mem_of_getElem? hj')⟩
   exact AVRs.mono (G := G4.lS Fs) (G' := Gc.lS Fs) (fun _ h => h) (fun _ _ => rfl) (fb b (List.mem_of_getElem? hj') vs' m3) (fun l hl => by rw [c6 b (List.mem_of_getElem? hj')] at hl; cases hl)) (fun i j hi hj e => by
   simp only [List.length_drop] at hi hj
   have h1 := hblk4 (bl.length + i) (by omega)
   rw [e] at h1
   have := hf.rel.inj _ _ _ h1 (hblk4 (bl.length + j) (by omega))
   injection this with this; omega)
  have hG5F : G5.F = Fs := z1
  obtain ⟨G6, S6, tr6, R6, y1, y2, y3, y4, y5, y6, h6⟩ := adm G4.rv R5 h5 (fun j r hj => by
   obtain ⟨q1, q2, q3, q4, _⟩ := hf.rel.rw j _ _ _ _ _ (vY obs ors hj)
   refine ⟨q3, q2, by rw [hG5F]; exact fr r (List.mem_of_getElem? hj) _ q4, fun g hg => ?_⟩
   have hb : blk G4 (outSto obs ors) (.rw j) = some g := by simp [blk, vY obs ors hj, hg]
   obtain ⟨o1, o2, o3, o4⟩ := hown4 _ _ hb (fun i hi e => by cases e)
   refine ⟨by rw [hG5F]; exact o1, o2, o3, fun l hl => ?_⟩
   rcases z10 l g hl with h' | ⟨j', hj', e⟩
   ·rw [hblk3] at h'; exact o4 l h'
   ·simp only [List.length_drop] at hj'
    have h1 := hblk4 (bl.length + j') (by omega)
    rw [← e] at h1
    have := hf.rel.inj _ _ _ hb h1
    cases this) (fun i j g hi hj e1 e2 => by
   have h1 : blk G4 (outSto obs ors) (.rw i) = some g := by simp [blk, vY obs ors (List.getElem?_eq_getElem hi), e1]
   have h2 : blk G4 (outSto obs ors) (.rw j) = some g := by simp [blk, vY obs ors (List.getElem?_eq_getElem hj), e2]
   have := hf.rel.inj _ _ _ h1 h2
   injection this)
  have := eR h6
  subst this
  have hbl1 : ∀ (j o : Nat), bl[j]? = some o → S1 (.bx o) ≠ .none := fun j o ho => by
   obtain ⟨x, _, h6', _⟩ := hb1 j o ho
   rw [b2 _ (by simp), h6']; simp
  refine ⟨_, S6, _, G6, rfl, R6, anE (AVRs.ren (G := G4.lS Fs) (fun k hk => by rw [y1, hG5F]; exact hk) fv (fun l hl => ?_)), fun l hl => ?_⟩
  ·rcases adf obs ors l (hf.refs l hl) with ⟨j, hj, rfl⟩ | ⟨j, hj, rfl⟩ | ⟨j, i, rfl⟩
   ·obtain ⟨e1, e2⟩ := y4 j _ (List.getElem?_eq_getElem hj)
    refine ⟨e1, ?_⟩
    rw [e2]
    exact (hf.rel.rw j _ _ _ _ _ (vY obs ors (List.getElem?_eq_getElem hj))).1.symm
   ·simp only [ajY, y2]
    by_cases hlt : j < bl.length
    ·have : Nat.blt j bl.length = true := Nat.ble_eq_true_of_le hlt
     simp only [this, cond_true]
     have hg : bl.getD j 0 = bl[j] := by simp [List.getD_eq_getElem?_getD, List.getElem?_eq_getElem hlt]
     rw [hg, z5 _ (hbl1 j _ (List.getElem?_eq_getElem hlt))]
     exact (hG4bb j _ (List.getElem?_eq_getElem hlt)).symm
    ·have : Nat.blt j bl.length = false := by
      cases hb : Nat.blt j bl.length
      ·rfl
      ·exact absurd (Nat.le_of_ble_eq_true hb) hlt
     simp only [this, cond_false]
     rw [z6 (j - bl.length) (by simp; omega)]
     show G4.bb (bl.length + (j - bl.length)) = G4.bb j
     congr 1; omega
   ·trivial
  ·rw [ajX, pM] at hl
   obtain ⟨l0, hl0, rfl⟩ := List.mem_map.1 hl
   rcases adf obs ors l0 (hf.refs l0 hl0) with ⟨j, hj, rfl⟩ | ⟨j, hj, rfl⟩ | ⟨j, i, rfl⟩
   ·exact y6 j hj
   ·simp only [ach]
    by_cases hlt : j < bl.length
    ·have : Nat.blt j bl.length = true := Nat.ble_eq_true_of_le hlt
     simp only [this, cond_true]
     have hg : bl.getD j 0 = bl[j] := by simp [List.getD_eq_getElem?_getD, List.getElem?_eq_getElem hlt]
     rw [hg]
     exact (y5 _ (z7 _ (hbl1 j _ (List.getElem?_eq_getElem hlt)))).1
    ·have : Nat.blt j bl.length = false := by
      cases hb : Nat.blt j bl.length
      ·rfl
      ·exact absurd (Nat.le_of_ble_eq_true hb) hlt
     simp only [this, cond_false]
     exact (y5 _ (z8 (j - bl.length) (by simp; omega))).1
   ·exact absurd hl0 (qH _ _ _)
end
end PX
set_option linter.unusedVariables false
set_option linter.unusedSimpArgs false
namespace PX
open Go
section
variable {P : Program} {E : Env} {Γ : Fun} {X : Ctx} {G : Gh} {st : Sto} {a : Act} {w : World} {tr : Tr} {po : PO}
theorem ah3 (hG : tW P E Γ) (R : Rel X G st a w) {args : List AV} {vs : List Value} (hA : AVRs G w args vs) (hreg : ∀ l ∈ AV.refsL args, st l ≠ .none) {d : Nat} {f : FuncId} (h : prE Γ (aeW E d f args) st tr = some po) :
  (∃ x, E.tm f = some x) ∧ Calls P f ⟨vs⟩ w (ai3 X a po) := by
 unfold aeW at h
 split at h
 ·exact (aY h).elim
 split at h
 ·exact (aY h).elim
 ·rename_i ss tbs htm
  refine ⟨⟨_, htm⟩, ?_⟩
  have hA0 := hA
  replace hA := abZ (E := E) (f := f) hA
  have none : ∀ {G : Gh} {as : List AV}, AVRs G w as vs → AVRs (G.fT fun _ => False) w as vs := fun {G as} h => AVRs.mono (G := G) (G' := G.fT fun _ => False) (fun _ h => .inl h) (fun _ _ => rfl) h (fun l _ => by cases l <;> simp [fX, Gh.fT])
  split at h
  ·obtain ⟨G1, st1, as1, tr1, R1, h1, h2⟩ := aiu R hA0 hreg h
   obtain ⟨G2, st2, as2, tr2, R2, _, h3, h4⟩ := aaA R1 (abZ (E := E) (f := f) h1) h2
   exact aaR hG R2 (none h3) htm (vF (by simp)) (fun _ h => h.elim) (.inl fun _ h => h) h4
  ·split at h
   ·obtain ⟨G1, st1, as', tr1, R1, g1, s1, h1, _, h2⟩ := abm R hA h
    exact aaR hG R1 (none h1) htm (by simp) (fun _ h => h.elim) (.inl fun _ h => h) h2
   ·rename_i hc
    simp only [Bool.or_eq_true, not_or, Bool.not_eq_true, Bool.not_eq_true', Bool.not_eq_false] at hc
    obtain ⟨as', tr1, h1, _, h2⟩ := adt R hA h
    refine aaR hG R (F1 := fun k => ∃ r, blk G st (.rw r) = some k) h1 htm (by simp) (fun k ⟨r, hr⟩ => ⟨r, by simp, hr⟩) (.inr ⟨hc.1.1.1, fun b hb => ?_, by simpa using hc.2⟩) h2
    have := List.any_eq_false.1 hc.1.1.2 b hb
    simpa using this
theorem aiq {f : FuncId} {fn : Func} (hf : P.funcs[f]? = some fn) (hname : (fn.name == "runtime.NumGoroutine") = false) (hb : fn.body.isNone = false) (args : Array Value) :
  (callFunc f args).run P w = .ok (.enter f args) w := by
 have h1 : fn.name ≠ "runtime.NumGoroutine" := by simpa using hname
 obtain ⟨c, hc⟩ : ∃ c, fn.body = some c := by
  cases h : fn.body with
  | none => rw [h] at hb; simp at hb
  | some c => exact ⟨c, rfl⟩
 simp [callFunc, hf, h1, hc]
theorem als {p : Prim} {as : List AV} {vs : List Value} {tr : Tr} (h : AVRs G w as vs) (hp : prE Γ (ae8 p as) st tr = some po) :
  ∃ u, (p.ext ⟨vs⟩).run P w = .ok u w ∧ ∃ av, po = .val av st tr ∧ AVR G w av u ∧ av.refs = [] := by
 unfold ae8 at hp
 split at hp
 ·cases h with
  | cons _ v1 _ _ h1 hs => cases hs with
   | cons _ v2 _ _ h2 hs => cases hs with
    | nil =>
     rw [h1.kO, h2.iI]
     exact ⟨_, by simp only [Prim.ext]; exact Lib.run_indexByteString _ _ w, _, eR hp, .mkInt .i64 _, rfl⟩
 ·cases h with
  | cons _ v1 _ _ h1 hs => cases hs with
   | cons _ v2 _ _ h2 hs => cases hs with
    | nil =>
     rw [h1.kO, h2.iI]
     exact ⟨_, by simp only [Prim.ext]; exact Lib.run_countString _ _ w, _, eR hp, .mkInt .i64 _, rfl⟩
 ·cases h with
  | cons _ v1 _ _ h1 hs => cases hs with
   | cons _ v2 _ _ h2 hs => cases hs with
    | nil =>
     rw [h1.kO, h2.kO]
     exact ⟨_, by simp only [Prim.ext]; exact Lib.run_compareString _ _ w, _, eR hp, .mkInt .i64 _, rfl⟩
 ·exact (aY hp).elim
theorem alm (EO : dE P E) (hG : tW P E Γ) {dst g args ts ty pos af gd} : OpS P E Γ ⟨dst, .call ⟨.value g, args, ts⟩, ty, pos, af, gd⟩ := by
 intro X G st a w tr po next Q h R hd _ hk hp
 obtain ⟨v1, tr1, h1, hr1, h2⟩ := cU R (show prE Γ (ev g fun
   | .fn g first captured => evs args.toList fun as => match E.prim g with
    | some p => if first.isEmpty && captured.isEmpty then ae8 p as else .fail
    | none => aeW E (dst.getD 9999) g (first ++ as ++ captured)
   | _ => .fail) st tr = some po from h)
 generalize hug : a.eval g = ug at h1
 cases h1 <;> simp only at h2 <;> first | exact (aY h2).elim | skip
 case fn f fi ca vf vc hf hc =>
  obtain ⟨as, tr2, h3, hreg, h4⟩ := aaM R h2
  have e1 : (⟨vf⟩ : Array Value) ++ args.map a.eval ++ ⟨vc⟩ = ⟨vf ++ args.toList.map a.eval ++ vc⟩ := by apply Array.ext'; simp
  split at h4
  ·rename_i p hp'
   split at h4
   ·rename_i hemp
    simp only [Bool.and_eq_true] at hemp
    have hf0 : fi = [] := by simpa using hemp.1
    have hc0 : ca = [] := by simpa using hemp.2
    subst hf0; subst hc0
    cases hf; cases hc
    obtain ⟨u, hrun, hval⟩ := als h3 h4
    obtain ⟨av, rfl, hav, hr⟩ := hval
    obtain ⟨fn, q1, q2, q3, q4, q5⟩ := EO.prim f p hp'
    refine fB (o := ⟨dst, .call ⟨.value g, args, ts⟩, ty, pos, af, gd⟩) (u := u) (w' := w) ?_ (hk _ _ _ rfl _ _ _ (R.putDst hd hav (by rw [hr]; simp)))
    simp only [execOp, resolve, hug, Deferred.ofValue, Sem.run_bind, Sem.run_pure, Result.andThen_ok, invoke]
    rw [e1, run_callFunc_extern q1 q2 q3 q4 q5]
    simp only [List.nil_append, List.append_nil]
    rw [hrun]; rfl
   ·exact (aY h4).elim
  obtain ⟨⟨x, hx⟩, hcall⟩ := ah3 hG R ((hf.append h3).append hc) (fun l hl => by
   rw [yJ, yJ, List.mem_append, List.mem_append] at hl
   rcases hl with (hl | hl) | hl
   ·exact hr1 l (by simp [AV.refs, hl])
   ·exact hreg l hl
   ·exact hr1 l (by simp [AV.refs, hl])) h4
  obtain ⟨fn, hfn, hname, hbody⟩ := EO.tm f x hx
  have hrun : (execOp a.eval ⟨dst, .call ⟨.value g, args, ts⟩, ty, pos, af, gd⟩).run P w = .ok (.enter f ⟨vf ++ args.toList.map a.eval ++ vc⟩) w := by
   have e1 : (⟨vf⟩ : Array Value) ++ args.map a.eval ++ ⟨vc⟩ = ⟨vf ++ args.toList.map a.eval ++ vc⟩ := by apply Array.ext'; simp
   simp only [execOp, resolve, hug, Deferred.ofValue, Sem.run_bind, Sem.run_pure, Result.andThen_ok, invoke]
   rw [e1]
   exact aiq hfn hname hbody _
  unfold Oper.wp
  rw [hrun, Oper.upon_enter]
  refine Calls.mono hcall (fun e w' he => ?_)
  cases e with
  | returned v =>
   obtain ⟨av, S, tr', G', rfl, R', hv, hr⟩ := he
   exact hk _ _ _ rfl _ _ _ (R'.putDst hd hv hr)
  | panicked chain =>
   obtain ⟨v, S, rfl, hpan⟩ := he
   exact hp v S rfl chain w' hpan
  | outgrown => exact he.elim
end
end PX
set_option linter.unusedVariables false
set_option linter.unusedSimpArgs false
namespace PX
open Go
section
variable {P : Program} {E : Env} {Γ : Fun}
theorem j1 {o : Oper} (h : iR E o = .fail) : OpS P E Γ o := by
 intro X G st a w tr po next Q hp
 rw [h] at hp; simp [prE] at hp
theorem ang (EO : dE P E) (hG : tW P E Γ) : aag P E Γ := by
 intro nt o hok
 obtain ⟨dst, op, ty, pos, af, g⟩ := o
 cases op
 case move x => exact alk
 case assign x => exact ajz
 case pick c x y => exact alU
 case alloc t =>
  refine aks EO ?_
  rintro rfl
  simp [xH] at hok
 case box t x => exact am5 EO
 case build t ps => exact akh EO
 case buildSlice t n ps => exact afP EO
 case load t x => exact alv EO
 case store t x y => exact akj EO
 case nilCheck x => exact ahV
 case binOp op t x y yt => exact akH EO
 case unOp op t x => exact amk
 case convert s t x => exact aiC EO
 case makeInterface t x => exact ac4 EO
 case makeSlice t l c => exact agI EO
 case slice t x lo hi mx => exact akv EO
 case fieldAddr t x f => exact ag0 EO
 case field t x f => exact akD EO
 case indexAddr t x i => exact agK EO
 case index t x i => exact akJ EO
 case extract x i => exact aiW
 case panic x => exact akT
 case range t x => exact aki EO
 case next x b =>
  cases b
  ·exact j1 rfl
  ·exact ali
 case makeFunc fn fi ca =>
  cases fn
  case func f => exact ahD
  all_goals exact j1 rfl
 case call c =>
  obtain ⟨callee, ⟨args⟩, ⟨ts⟩⟩ := c
  cases callee
  case value f => exact alm EO hG
  case builtin b =>
   cases b
   case len =>
    rcases args with _ | ⟨x, _ | ⟨y, args⟩⟩ <;> first | exact j1 rfl | skip
    rcases ts with _ | ⟨t, ts⟩
    ·exact j1 rfl
    ·exact ana EO
   case append =>
    rcases args with _ | ⟨x, _ | ⟨y, _ | ⟨z, args⟩⟩⟩ <;> first | exact j1 rfl | skip
    rcases ts with _ | ⟨t, _ | ⟨u, _ | ⟨v, ts⟩⟩⟩ <;> first | exact j1 rfl | skip
    exact akb EO
   case copy =>
    rcases args with _ | ⟨x, _ | ⟨y, _ | ⟨z, args⟩⟩⟩ <;> first | exact j1 rfl | skip
    rcases ts with _ | ⟨t, ts⟩
    ·exact j1 rfl
    ·exact alX EO
   case clear =>
    rcases args with _ | ⟨x, _ | ⟨y, args⟩⟩ <;> first | exact j1 rfl | skip
    rcases ts with _ | ⟨t, _ | ⟨u, ts⟩⟩ <;> first | exact j1 rfl | skip
    exact akO EO
   case min => exact aeF false
   case max => exact aeF true
   all_goals exact j1 rfl
  all_goals exact j1 rfl
 all_goals exact j1 rfl
theorem adq (EO : dE P E) (LO : xV P E) : ∀ n, tW P E (kB E n)
 | 0 => fun f args bs rs out h => by simp [kB] at h
 | n + 1 => by
  have ih := adq EO LO n
  have hops := ang EO ih
  have hd := ajC EO hops
  intro f args bs rs out h
  rw [kB] at h
  split at h
  ·rename_i k hk
   exact LO f k hk _ ih args bs rs out h
  ·exact ajB EO hops (aiJ EO hops hd adv n) hd f args bs rs out h
end
end PX
set_option linter.unusedVariables false
set_option linter.unusedSimpArgs false
namespace PX
open Go
def FLe (Γ Γ' : Fun) : Prop := ∀ f a b r o, Γ f a b r = some o → Γ' f a b r = some o
def KLe (K K' : Ex → Sto → Res) : Prop := ∀ e st o, K e st = some o → K' e st = some o
abbrev Lam := Code → Sto → (Ex → Sto → Res) → Res
def LLe (Λ Λ' : Lam) : Prop := ∀ b st K K' o, KLe K K' → Λ b st K = some o → Λ' b st K' = some o
theorem abe {Γ Γ' : Fun} (h : FLe Γ Γ') : ∀ (p : Pr) (st : Sto) (tr : Tr) (po : PO), prE Γ p st tr = some po → prE Γ' p st tr = some po := by
 intro p
 induction p with
 | done v => intro st tr po hp; exact hp
 | fail => intro st tr po hp; exact hp
 | pan v => intro st tr po hp; exact hp
 | get l q ih => intro st tr po hp; simp only [prE] at hp ⊢; exact ih _ _ _ _ hp
 | put l v q ih => intro st tr po hp; simp only [prE] at hp ⊢; exact ih _ _ _ hp
 | chk b q ih => intro st tr po hp; cases b <;> simp only [prE] at hp ⊢ <;> first | exact ih _ _ _ hp | cases hp
 | ite b q r ihq ihr => intro st tr po hp; cases b <;> simp only [prE] at hp ⊢ <;> first | exact ihq _ _ _ hp | exact ihr _ _ _ hp
 | call f as bs rs q ih =>
  intro st tr po hp
  simp only [prE] at hp ⊢
  split at hp
  ·rename_i o ho
   rw [h _ _ _ _ _ ho]
   exact ih _ _ _ _ hp
  ·cases hp
theorem aeN {Γ Γ' : Fun} (h : FLe Γ Γ') : ∀ (p : Pr) (st : Sto) (tr : Tr) (po : PO), prE Γ p st tr = some po → dW Γ' p st tr = dW Γ p st tr := by
 intro p
 induction p with
 | done v => intro st tr po hp; rfl
 | fail => intro st tr po hp; rfl
 | pan v => intro st tr po hp; rfl
 | get l q ih => intro st tr po hp; simp only [prE, dW] at hp ⊢; exact ih _ _ _ _ hp
 | put l v q ih => intro st tr po hp; simp only [prE, dW] at hp ⊢; exact ih _ _ _ hp
 | chk b q ih => intro st tr po hp; cases b <;> simp only [prE, dW] at hp ⊢ <;> first | exact ih _ _ _ hp | cases hp
 | ite b q r ihq ihr => intro st tr po hp; cases b <;> simp only [prE, dW] at hp ⊢ <;> first | exact ihq _ _ _ hp | exact ihr _ _ _ hp
 | call f as bs rs q ih =>
  intro st tr po hp
  simp only [prE, dW] at hp ⊢
  split at hp
  ·rename_i o ho
   rw [h _ _ _ _ _ ho]
   exact ih _ _ _ _ hp
  ·cases hp
theorem rA {E : Env} {Γ Γ' : Fun} (h : FLe Γ Γ') {ops : Array Oper} {k k' : Sto → List Tr → Res} {kp kp' : AV → Sto → List Tr → Res} (hk : ∀ s t o, k s t = some o → k' s t = some o) (hp : ∀ v S t o, kp v S t = some o → kp' v S t = some o) :
  ∀ (l : List Oper) (st : Sto) (ts : List Tr) (o : Out), dJ E Γ ops l st ts k kp = some o → dJ E Γ' ops l st ts k' kp' = some o
 | [], st, ts, o, hr => hk _ _ _ hr
 | q :: r, st, ts, o, hr => by
  have go : ∀ (st : Sto) (tr : Tr), gI Γ (iR E q) st tr (fun v st' tr => dJ E Γ ops r (putDst st' q.dst v) (fK tr q.dst :: ts) k kp) (fun v S tr => kp v S (tr :: ts)) = some o →
    gI Γ' (iR E q) st tr (fun v st' tr => dJ E Γ' ops r (putDst st' q.dst v) (fK tr q.dst :: ts) k' kp') (fun v S tr => kp' v S (tr :: ts)) = some o := by
   intro st tr hh
   rw [uK] at hh ⊢
   obtain ⟨po, h1, h2⟩ := Option.bind_eq_some_iff.1 hh
   rw [abe h _ _ _ _ h1, aeN h _ _ _ _ h1]
   cases po with
   | val v st' tr' => exact rA h hk hp r _ _ _ h2
   | pan v S => exact hp _ _ _ _ h2
  unfold dJ at hr ⊢
  split at hr
  ·exact go _ _ hr
  ·split at hr
   ·cases hr
   ·split at hr
    ·rename_i b hb
     cases b <;> simp only at hr ⊢ <;> split at hr <;> rename_i hw <;> simp only [hw, if_true, if_false, Bool.false_eq_true] <;> first | exact go _ _ hr | exact rA h hk hp r _ _ _ hr
    ·exact rA h hk hp r _ _ _ hr
    ·cases hr
theorem aaS (x : Res) : vA x x = x := by unfold vA; simp
theorem jU {E : Env} {Γ Γ' : Fun} {Λ Λ' : Lam} {hr : Nat → Option Hint} (hG : FLe Γ Γ') (hL : LLe Λ Λ') : ∀ (c : Code) (st : Sto) (K K' : Ex → Sto → Res) (o : Out), KLe K K' → exec E Γ Λ hr c st K = some o → exec E Γ' Λ' hr c st K' = some o := by
 intro c
 induction c with
 | skip => intro st K K' o hK h; simp only [exec] at h ⊢; exact hK _ _ _ h
 | label l => intro st K K' o hK h; simp only [exec] at h ⊢; exact hK _ _ _ h
 | exit i => intro st K K' o hK h; simp only [exec] at h ⊢; exact hK _ _ _ h
 | ret => intro st K K' o hK h; simp only [exec] at h ⊢; exact hK _ _ _ h
 | region id ops draw =>
  intro st K K' o hK h
  have go : ∀ (st : Sto), dJ E Γ ops ops.toList st [] (fun st' ts =>
   if draw then (if gA ops && jP (Region.before ops) ts then K .normal st' else none) else K .normal st') (fun v S ts => if draw then (if gA ops && vH ops ts then K (.pan v) Sto.nil else none) else K (.pan v) (g4 S)) = some o →
   dJ E Γ' ops ops.toList st [] (fun st' ts =>
   if draw then (if gA ops && jP (Region.before ops) ts then K' .normal st' else none) else K' .normal st') (fun v S ts => if draw then (if gA ops && vH ops ts then K' (.pan v) Sto.nil else none) else K' (.pan v) (g4 S)) = some o := by
   intro st hh
   refine rA hG (fun s t o' h' => ?_) (fun v S t o' h' => ?_) _ _ _ _ hh
   ·cases draw
    ·simp only [Bool.false_eq_true, if_false] at h' ⊢; exact hK _ _ _ h'
    ·simp only [if_true] at h' ⊢
     split at h'
     ·rename_i hc; rw [if_pos hc]; exact hK _ _ _ h'
     ·cases h'
   ·cases draw
    ·simp only [Bool.false_eq_true, if_false] at h' ⊢; exact hK _ _ _ h'
    ·simp only [if_true] at h' ⊢
     split at h'
     ·rename_i hc; rw [if_pos hc]; exact hK _ _ _ h'
     ·cases h'
  unfold exec at h ⊢
  simp only at h ⊢
  split at h
  ·obtain ⟨st', h1, h2⟩ := Option.bind_eq_some_iff.1 h
   rw [h1]; exact go _ h2
  ·exact go _ h
 | seq x y ihx ihy =>
  intro st K K' o hK h
  simp only [exec] at h ⊢
  refine ihx st _ _ o (fun e s o' h' => ?_) h
  cases e <;> simp only at h' ⊢ <;> first | exact ihy _ _ _ _ hK h' | exact hK _ _ _ h'
 | cond c x y ihx ihy =>
  intro st K K' o hK h
  unfold exec at h ⊢
  split at h
  ·split at h
   ·rename_i b hb
    cases b <;> simp only at h ⊢ <;> first | exact ihx _ _ _ _ hK h | exact ihy _ _ _ _ hK h
   ·obtain ⟨h1, h2⟩ := acf h
    rw [ihx _ _ _ _ hK h1, ihy _ _ _ _ hK h2]
    exact aaS _
   ·cases h
  ·rename_i b
   cases b <;> simp only at h ⊢ <;> first | exact ihx _ _ _ _ hK h | exact ihy _ _ _ _ hK h
  ·cases h
 | block id b ih =>
  intro st K K' o hK h
  simp only [exec] at h ⊢
  refine ih st _ _ o (fun e s o' h' => ?_) h
  cases e <;> simp only at h' ⊢ <;> first | (split at h' <;> rename_i hc <;> simp only [hc, if_true, if_false, Bool.false_eq_true] <;> exact hK _ _ _ h') | exact hK _ _ _ h'
 | loop b ih => intro st K K' o hK h; simp only [exec] at h ⊢; exact hL _ _ _ _ _ hK h
 | scope b ih => intro st K K' o hK h; simp only [exec] at h ⊢; exact ih _ _ _ _ hK h
 | _ => intro st K K' o hK h; simp [exec] at h
theorem jJ {E : Env} {Γ Γ' : Fun} (hG : FLe Γ Γ') {hl hr : Nat → Option Hint} : ∀ n, LLe (cS E Γ hl hr n) (cS E Γ' hl hr (n + 1))
 | 0 => fun b st K K' o hK h => by simp [cS] at h
 | n + 1 => by
  intro b st K K' o hK h
  have ih := jJ (E := E) hG (hl := hl) (hr := hr) n
  rw [cS] at h ⊢
  split at h
  ·cases h
  ·obtain ⟨st', h1, h2⟩ := Option.bind_eq_some_iff.1 h
   rw [h1]
   refine jU hG ih b st' _ _ o (fun e s o' h' => ?_) h2
   cases e <;> simp only [iX] at h' ⊢ <;> first | exact ih _ _ _ _ _ hK h' | exact hK _ _ _ h'
theorem af3 {E : Env} {Γ Γ' : Fun} {Λ Λ' : Lam} (hG : FLe Γ Γ') (hL : LLe Λ Λ') : FLe (body E Γ Λ) (body E Γ' Λ') := by
 intro f a b r o h
 unfold body at h ⊢
 split at h
 ·cases h
 ·split at h
  ·cases h
  ·split at h
   ·cases h
   ·split at h
    ·cases h
    ·rename_i hc
     simp only [hc, if_false, Bool.false_eq_true]
     exact jU hG hL _ _ _ _ o (fun _ _ _ h => h) h
theorem mJ : LLe mG mG := fun _ _ _ _ _ _ h => by simp [mG] at h
theorem agL {st : Sto} {k k' : Sto → Res} {o : Out} (hk : ∀ s, k s = some o → k' s = some o) (h : oH st k = some o) : oH st k' = some o := by
 unfold oH at h ⊢
 split at h
 ·split at h
  ·split at h
   ·split at h
    ·split at h
     ·rename_i hc; simp only [hc, if_true]; exact hk _ h
     ·cases h
    ·cases h
   ·cases h
  ·cases h
 ·cases h
theorem agW {E : Env} {Γ Γ' : Fun} (hG : FLe Γ Γ') {fn : Func} {ss tbs gi v st o} (h : pW E Γ fn ss tbs gi v st = some o) : pW E Γ' fn ss tbs gi v st = some o := by
 unfold pW at h ⊢
 split at h
 ·split at h
  ·rename_i hc
   simp only [hc, if_true]
   exact jU hG mJ _ _ _ _ o (fun _ _ _ h => h) h
  ·cases h
 ·cases h
noncomputable def sI (E : Env) (Γ : Fun) (fn : Func) (ss : List Sh) (tbs : List (TypeId × List Sh)) (gi : GuardI) : Ex → Sto → Res := fun e s => match e with
 | .normal => finish E fn ss tbs 0 s
 | .ret => finish E fn ss tbs 0 s
 | .pan v => pW E Γ fn ss tbs gi v s
 | _ => none
noncomputable def sF (E : Env) (Γ : Fun) (fn : Func) (ss : List Sh) (tbs : List (TypeId × List Sh)) (gi : GuardI) : Ex → Sto → Res := fun e st => match e with
 | .normal => oH st fun st' => exec E Γ mG vO gi.B st' (sI E Γ fn ss tbs gi)
 | .ret => finish E fn ss tbs 0 st
 | _ => none
noncomputable def qQ (E : Env) (Γ : Fun) (fn : Func) (ss : List Sh) (tbs : List (TypeId × List Sh)) (gi : GuardI) : Ex → Sto → Res := fun e st => match e with
 | .normal => exec E Γ mG vO gi.A2 st (sF E Γ fn ss tbs gi)
 | _ => none
theorem ab8 {E : Env} {Γ : Fun} {f : FuncId} {gi : GuardI} {args bs rs o} (h : pO E Γ f gi args bs rs = some o) :
  ∃ fn ss tbs, E.fn f = some fn ∧ E.tm f = some (ss, tbs) ∧ (bs.isEmpty && rs.isEmpty && codeOk fn.ntmps gi.A1 && codeOk fn.ntmps gi.A2 && codeOk fn.ntmps gi.B && codeOk 14 gi.H && Nat.ble args.length fn.ntmps && Nat.blt 10 fn.ntmps) = true ∧
   exec E Γ mG vO gi.A1 (sM 0 args (inSto [] [])) (qQ E Γ fn ss tbs gi) = some o := by
 unfold pO at h
 split at h
 ·cases h
 rename_i fn hfn
 split at h
 ·cases h
 rename_i ss tbs htm
 split at h
 ·cases h
 rename_i hc
 refine ⟨fn, ss, tbs, hfn, htm, by simpa using hc, h⟩
theorem adk {E : Env} {Γ : Fun} {f : FuncId} {gi : GuardI} {args bs rs o fn ss tbs} (h1 : E.fn f = some fn) (h2 : E.tm f = some (ss, tbs))
  (h3 : (bs.isEmpty && rs.isEmpty && codeOk fn.ntmps gi.A1 && codeOk fn.ntmps gi.A2 && codeOk fn.ntmps gi.B && codeOk 14 gi.H && Nat.ble args.length fn.ntmps && Nat.blt 10 fn.ntmps) = true)
  (h4 : exec E Γ mG vO gi.A1 (sM 0 args (inSto [] [])) (qQ E Γ fn ss tbs gi) = some o) : pO E Γ f gi args bs rs = some o := by
 unfold pO
 simp only [h1, h2, h3, Bool.not_true, Bool.false_eq_true, if_false]
 exact h4
theorem abL {E : Env} {Γ Γ' : Fun} (hG : FLe Γ Γ') {fn : Func} {ss tbs gi} : KLe (sI E Γ fn ss tbs gi) (sI E Γ' fn ss tbs gi) := by
 intro e s o h
 cases e <;> simp only [sI] at h ⊢ <;> first | exact h | exact agW hG h
theorem ab0 {E : Env} {Γ Γ' : Fun} (hG : FLe Γ Γ') {fn : Func} {ss tbs gi} : KLe (sF E Γ fn ss tbs gi) (sF E Γ' fn ss tbs gi) := by
 intro e s o h
 cases e <;> simp only [sF] at h ⊢ <;> first | exact h | exact agL (fun s h => jU hG mJ _ _ _ _ _ (abL hG) h) h
theorem abO {E : Env} {Γ Γ' : Fun} (hG : FLe Γ Γ') {fn : Func} {ss tbs gi} : KLe (qQ E Γ fn ss tbs gi) (qQ E Γ' fn ss tbs gi) := by
 intro e s o h
 cases e <;> simp only [qQ] at h ⊢ <;> first | exact h | exact jU hG mJ _ _ _ _ _ (ab0 hG) h
theorem agX {E : Env} {Γ Γ' : Fun} (hG : FLe Γ Γ') {f : FuncId} {gi : GuardI} {args bs rs o} (h : pO E Γ f gi args bs rs = some o) : pO E Γ' f gi args bs rs = some o := by
 obtain ⟨fn, ss, tbs, h1, h2, h3, h4⟩ := ab8 h
 exact adk h1 h2 h3 (jU hG mJ _ _ _ _ _ (abO hG) h4)
theorem ait {E : Env} {Γ Γ' : Fun} (hG : FLe Γ Γ') {f : FuncId} {k : LibK} {args bs rs o} (h : yV E Γ f k args bs rs = some o) : yV E Γ' f k args bs rs = some o := by
 cases k
 case guard g => exact agX hG h
 all_goals exact h
theorem lI {E : Env} : ∀ n, FLe (kB E n) (kB E (n + 1))
 | 0 => fun f a b r o h => by simp [kB] at h
 | n + 1 => by
  have ih := lI (E := E) n
  intro f a b r o h
  rw [kB] at h ⊢
  split at h
  ·exact ait ih h
  ·exact af3 ih (jJ ih n) f a b r o h
end PX
set_option linter.unusedVariables false
set_option linter.unusedSimpArgs false
namespace PX
open Go
structure apT {α : Type} (le : α → α → Prop) (x : Nat → α) : Prop where
 step : ∀ n, le (x n) (x (n + 1))
theorem FLe.refl (Γ : Fun) : FLe Γ Γ := fun _ _ _ _ _ h => h
theorem FLe.trans {a b c : Fun} (h : FLe a b) (k : FLe b c) : FLe a c := fun f x y z o ho => k _ _ _ _ _ (h _ _ _ _ _ ho)
theorem FLe.of {x : Nat → Fun} (h : ∀ n, FLe (x n) (x (n + 1))) {n m : Nat} (hnm : n ≤ m) : FLe (x n) (x m) := by
 induction hnm with
 | refl => exact .refl _
 | step _ ih => exact ih.trans (h _)
theorem KLe.refl (K : Ex → Sto → Res) : KLe K K := fun _ _ _ h => h
theorem KLe.trans {a b c : Ex → Sto → Res} (h : KLe a b) (k : KLe b c) : KLe a c := fun e s o ho => k _ _ _ (h _ _ _ ho)
theorem KLe.of {x : Nat → Ex → Sto → Res} (h : ∀ n, KLe (x n) (x (n + 1))) {n m : Nat} (hnm : n ≤ m) : KLe (x n) (x m) := by
 induction hnm with
 | refl => exact .refl _
 | step _ ih => exact ih.trans (h _)
def aab (Γn : Nat → Fun) (Γ : Fun) : Prop := ∀ f a b r o, Γ f a b r = some o → ∃ n, Γn n f a b r = some o
def adY (Kn : Nat → Ex → Sto → Res) (K : Ex → Sto → Res) : Prop := ∀ e st o, K e st = some o → ∃ n, Kn n e st = some o
theorem alC {Γn : Nat → Fun} {Γ : Fun} (hm : ∀ n, FLe (Γn n) (Γn (n + 1))) (hl : aab Γn Γ) : ∀ (p : Pr) (st : Sto) (tr : Tr) (po : PO), prE Γ p st tr = some po → ∃ n, prE (Γn n) p st tr = some po := by
 intro p
 induction p with
 | done v => intro st tr po hp; exact ⟨0, hp⟩
 | fail => intro st tr po hp; exact ⟨0, hp⟩
 | pan v => intro st tr po hp; exact ⟨0, hp⟩
 | get l q ih => intro st tr po hp; simp only [prE] at hp ⊢; exact ih _ _ _ _ hp
 | put l v q ih => intro st tr po hp; simp only [prE] at hp ⊢; exact ih _ _ _ hp
 | chk b q ih => intro st tr po hp; cases b <;> simp only [prE] at hp ⊢ <;> first | exact ih _ _ _ hp | cases hp
 | ite b q r ihq ihr => intro st tr po hp; cases b <;> simp only [prE] at hp ⊢ <;> first | exact ihq _ _ _ hp | exact ihr _ _ _ hp
 | call f as bs rs q ih =>
  intro st tr po hp
  simp only [prE] at hp
  split at hp
  ·rename_i o ho
   obtain ⟨n, hn⟩ := hl _ _ _ _ _ ho
   obtain ⟨m, hmm⟩ := ih _ _ _ _ hp
   refine ⟨max n m, ?_⟩
   simp only [prE]
   rw [FLe.of hm (Nat.le_max_left n m) _ _ _ _ _ hn]
   exact abe (FLe.of hm (Nat.le_max_right n m)) _ _ _ _ hmm
  ·cases hp
theorem ajR {Γn : Nat → Fun} {Γ : Fun} (hl : aab Γn Γ) (hm : ∀ n, FLe (Γn n) (Γn (n + 1))) {n : Nat} : ∀ {p : Pr} {st : Sto} {tr : Tr} {po po' : PO}, prE Γ p st tr = some po → prE (Γn n) p st tr = some po' → dW (Γn n) p st tr = dW Γ p st tr := by
 intro p
 induction p with
 | done v => intro st tr po po' hp hq; rfl
 | fail => intro st tr po po' hp hq; rfl
 | pan v => intro st tr po po' hp hq; rfl
 | get l q ih => intro st tr po po' hp hq; simp only [prE, dW] at hp hq ⊢; exact ih _ hp hq
 | put l v q ih => intro st tr po po' hp hq; simp only [prE, dW] at hp hq ⊢; exact ih hp hq
 | chk b q ih => intro st tr po po' hp hq; cases b <;> simp only [prE, dW] at hp hq ⊢ <;> first | exact ih hp hq | cases hp
 | ite b q r ihq ihr => intro st tr po po' hp hq; cases b <;> simp only [prE, dW] at hp hq ⊢ <;> first | exact ihq hp hq | exact ihr hp hq
 | call f as bs rs q ih =>
  intro st tr po po' hp hq
  simp only [prE, dW] at hp hq ⊢
  split at hp
  ·rename_i o ho
   split at hq
   ·rename_i o' ho'
    obtain ⟨m, hmm⟩ := hl _ _ _ _ _ ho
    have e1 := FLe.of hm (Nat.le_max_left n m) _ _ _ _ _ ho'
    have e2 := FLe.of hm (Nat.le_max_right n m) _ _ _ _ _ hmm
    rw [e1] at e2
    obtain rfl := Option.some.inj e2
    skip
    exact ih _ hp hq
   ·cases hq
  ·cases hp
section
variable {E : Env} {Γn : Nat → Fun} {Γ : Fun}
theorem vG (hm : ∀ n, FLe (Γn n) (Γn (n + 1))) (hl : aab Γn Γ) {ops : Array Oper} {k : Sto → List Tr → Res} {kp : AV → Sto → List Tr → Res} {kn : Nat → Sto → List Tr → Res} {kpn : Nat → AV → Sto → List Tr → Res}
  (hkm : ∀ n s t o, kn n s t = some o → kn (n + 1) s t = some o) (hkl : ∀ s t o, k s t = some o → ∃ n, kn n s t = some o)
  (hpm : ∀ n v S t o, kpn n v S t = some o → kpn (n + 1) v S t = some o) (hpl : ∀ v S t o, kp v S t = some o → ∃ n, kpn n v S t = some o) :
  ∀ (l : List Oper) (st : Sto) (ts : List Tr) (o : Out), dJ E Γ ops l st ts k kp = some o → ∃ n, dJ E (Γn n) ops l st ts (kn n) (kpn n) = some o
 | [], st, ts, o, hr => hkl _ _ _ hr
 | q :: r, st, ts, o, hr => by
  have kup : ∀ {n m : Nat}, n ≤ m → ∀ s t o, kn n s t = some o → kn m s t = some o := by
   intro n m h
   induction h with
   | refl => exact fun _ _ _ h => h
   | step _ ih => exact fun s t o h => hkm _ _ _ _ (ih s t o h)
  have pup : ∀ {n m : Nat}, n ≤ m → ∀ v S t o, kpn n v S t = some o → kpn m v S t = some o := by
   intro n m h
   induction h with
   | refl => exact fun _ _ _ _ h => h
   | step _ ih => exact fun v S t o h => hpm _ _ _ _ _ (ih v S t o h)
  have go : ∀ (st : Sto) (tr : Tr), gI Γ (iR E q) st tr (fun v st' tr => dJ E Γ ops r (putDst st' q.dst v) (fK tr q.dst :: ts) k kp) (fun v S tr => kp v S (tr :: ts)) = some o →
    ∃ n, gI (Γn n) (iR E q) st tr (fun v st' tr => dJ E (Γn n) ops r (putDst st' q.dst v) (fK tr q.dst :: ts) (kn n) (kpn n)) (fun v S tr => kpn n v S (tr :: ts)) = some o := by
   intro st tr hh
   rw [uK] at hh
   obtain ⟨po, h1, h2⟩ := Option.bind_eq_some_iff.1 hh
   obtain ⟨n, hn⟩ := alC hm hl _ _ _ _ h1
   cases po with
   | val v st' tr' =>
    obtain ⟨m, hmm⟩ := vG hm hl hkm hkl hpm hpl r _ _ _ h2
    refine ⟨max n m, ?_⟩
    rw [uK, abe (FLe.of hm (Nat.le_max_left n m)) _ _ _ _ hn]
    exact rA (FLe.of hm (Nat.le_max_right n m)) (kup (Nat.le_max_right n m)) (pup (Nat.le_max_right n m)) _ _ _ _ hmm
   | pan v S =>
    obtain ⟨m, hmm⟩ := hpl _ _ _ _ h2
    refine ⟨max n m, ?_⟩
    rw [uK, abe (FLe.of hm (Nat.le_max_left n m)) _ _ _ _ hn, aeN (FLe.of hm (Nat.le_max_left n m)) _ _ _ _ hn, ajR hl hm h1 hn]
    exact pup (Nat.le_max_right n m) _ _ _ _ hmm
  unfold dJ at hr ⊢
  split at hr
  ·rename_i hg
   obtain ⟨n, hn⟩ := go _ _ hr
   exact ⟨n, hn⟩
  ·split at hr
   ·cases hr
   ·split at hr
    ·rename_i b hb
     cases b <;> simp only at hr ⊢ <;> split at hr <;> rename_i hw <;> simp only [hw, if_true, if_false, Bool.false_eq_true] <;> first | exact go _ _ hr | exact vG hm hl hkm hkl hpm hpl r _ _ _ hr
    ·exact vG hm hl hkm hkl hpm hpl r _ _ _ hr
    ·cases hr
theorem n3 (hm : ∀ n, FLe (Γn n) (Γn (n + 1))) (hl : aab Γn Γ) {Λn : Nat → Lam} {Λ : Lam} (hLm : ∀ n, LLe (Λn n) (Λn (n + 1)))
  (hLl : ∀ b st K (Kn : Nat → Ex → Sto → Res) o, (∀ n, KLe (Kn n) (Kn (n + 1))) → adY Kn K → Λ b st K = some o → ∃ n, Λn n b st (Kn n) = some o) {hr : Nat → Option Hint} :
  ∀ (c : Code) (st : Sto) (K : Ex → Sto → Res) (Kn : Nat → Ex → Sto → Res) (o : Out), (∀ n, KLe (Kn n) (Kn (n + 1))) → adY Kn K → exec E Γ Λ hr c st K = some o → ∃ n, exec E (Γn n) (Λn n) hr c st (Kn n) = some o := by
 intro c
 induction c with
 | skip => intro st K Kn o hKm hKl h; simp only [exec] at h ⊢; exact hKl _ _ _ h
 | label l => intro st K Kn o hKm hKl h; simp only [exec] at h ⊢; exact hKl _ _ _ h
 | exit i => intro st K Kn o hKm hKl h; simp only [exec] at h ⊢; exact hKl _ _ _ h
 | ret => intro st K Kn o hKm hKl h; simp only [exec] at h ⊢; exact hKl _ _ _ h
 | region id ops draw =>
  intro st K Kn o hKm hKl h
  have go : ∀ (st : Sto), dJ E Γ ops ops.toList st [] (fun st' ts =>
   if draw then (if gA ops && jP (Region.before ops) ts then K .normal st' else none) else K .normal st') (fun v S ts => if draw then (if gA ops && vH ops ts then K (.pan v) Sto.nil else none) else K (.pan v) (g4 S)) = some o →
   ∃ n, dJ E (Γn n) ops ops.toList st [] (fun st' ts =>
   if draw then (if gA ops && jP (Region.before ops) ts then Kn n .normal st' else none) else Kn n .normal st') (fun v S ts => if draw then (if gA ops && vH ops ts then Kn n (.pan v) Sto.nil else none) else Kn n (.pan v) (g4 S)) = some o := by
   intro st hh
   refine vG hm hl (kn := fun n st' ts => if draw then (if gA ops && jP (Region.before ops) ts then Kn n .normal st' else none) else Kn n .normal st') (kpn := fun n v S ts => if draw then (if gA ops && vH ops ts then Kn n (.pan v) Sto.nil else none) else Kn n (.pan v) (g4 S))
    (fun n s t o' h' => ?_) (fun s t o' h' => ?_) (fun n v S t o' h' => ?_) (fun v S t o' h' => ?_) _ _ _ _ hh
   ·cases draw
    ·simp only [Bool.false_eq_true, if_false] at h' ⊢; exact hKm _ _ _ _ h'
    ·simp only [if_true] at h' ⊢
     split at h'
     ·rename_i hc; rw [if_pos hc]; exact hKm _ _ _ _ h'
     ·cases h'
   ·cases draw
    ·simp only [Bool.false_eq_true, if_false] at h' ⊢; exact hKl _ _ _ h'
    ·simp only [if_true] at h' ⊢
     split at h'
     ·rename_i hc; simp only [if_pos hc]; exact hKl _ _ _ h'
     ·cases h'
   ·cases draw
    ·simp only [Bool.false_eq_true, if_false] at h' ⊢; exact hKm _ _ _ _ h'
    ·simp only [if_true] at h' ⊢
     split at h'
     ·rename_i hc; rw [if_pos hc]; exact hKm _ _ _ _ h'
     ·cases h'
   ·cases draw
    ·simp only [Bool.false_eq_true, if_false] at h' ⊢; exact hKl _ _ _ h'
    ·simp only [if_true] at h' ⊢
     split at h'
     ·rename_i hc; simp only [if_pos hc]; exact hKl _ _ _ h'
     ·cases h'
  unfold exec at h ⊢
  simp only at h ⊢
  split at h
  ·obtain ⟨st', h1, h2⟩ := Option.bind_eq_some_iff.1 h
   simp only [h1, Option.bind_some]; exact go _ h2
  ·exact go _ h
 | seq x y ihx ihy =>
  intro st K Kn o hKm hKl h
  simp only [exec] at h ⊢
  refine ihx st _ (fun n e st' => match e with | .normal => exec E (Γn n) (Λn n) hr y st' (Kn n) | e => Kn n e st') o (fun n e s o' h' => ?_) (fun e s o' h' => ?_) h
  ·cases e <;> simp only at h' ⊢ <;> first | exact jU (hm n) (hLm n) _ _ _ _ _ (hKm n) h' | exact hKm n _ _ _ h'
  ·cases e <;> simp only at h' ⊢ <;> first | exact ihy _ _ _ _ hKm hKl h' | exact hKl _ _ _ h'
 | cond c x y ihx ihy =>
  intro st K Kn o hKm hKl h
  unfold exec at h ⊢
  split at h
  ·split at h
   ·rename_i b hb
    cases b <;> simp only at h ⊢ <;> first | exact ihx _ _ _ _ hKm hKl h | exact ihy _ _ _ _ hKm hKl h
   ·obtain ⟨h1, h2⟩ := acf h
    obtain ⟨n1, c1⟩ := ihx _ _ _ _ hKm hKl h1
    obtain ⟨n2, c2⟩ := ihy _ _ _ _ hKm hKl h2
    have lup : ∀ {a b : Nat}, a < b → LLe (Λn a) (Λn b) := by
     intro a b hab
     induction hab with
     | refl => exact hLm a
     | step _ ih => exact fun b st K K' o hK h => hLm _ _ _ _ _ _ (KLe.refl _) (ih _ _ _ _ _ hK h)
    refine ⟨max n1 n2 + 1, ?_⟩
    have d1 := jU (FLe.of hm (show n1 ≤ max n1 n2 + 1 by omega)) (lup (show n1 < max n1 n2 + 1 by omega)) _ _ _ _ _ (KLe.of hKm (show n1 ≤ max n1 n2 + 1 by omega)) c1
    have d2 := jU (FLe.of hm (show n2 ≤ max n1 n2 + 1 by omega)) (lup (show n2 < max n1 n2 + 1 by omega)) _ _ _ _ _ (KLe.of hKm (show n2 ≤ max n1 n2 + 1 by omega)) c2
    rw [d1, d2]
    exact aaS _
   ·cases h
  ·rename_i b
   cases b <;> simp only at h ⊢ <;> first | exact ihx _ _ _ _ hKm hKl h | exact ihy _ _ _ _ hKm hKl h
  ·cases h
 | block id b ih =>
  intro st K Kn o hKm hKl h
  simp only [exec] at h ⊢
  refine ih st _ (fun n e st' => match e with | .exit i => if Nat.beq i id then Kn n .normal st' else Kn n (.exit i) st' | e => Kn n e st') o (fun n e s o' h' => ?_) (fun e s o' h' => ?_) h
  ·cases e <;> simp only at h' ⊢ <;> first | (split at h' <;> rename_i hc <;> simp only [hc, if_true, if_false, Bool.false_eq_true] <;> exact hKm n _ _ _ h') | exact hKm n _ _ _ h'
  ·cases e <;> simp only at h' ⊢ <;> first | (split at h' <;> rename_i hc <;> simp only [hc, if_true, if_false, Bool.false_eq_true] <;> exact hKl _ _ _ h') | exact hKl _ _ _ h'
 | loop b ih => intro st K Kn o hKm hKl h; simp only [exec] at h ⊢; exact hLl _ _ _ _ _ hKm hKl h
 | scope b ih => intro st K Kn o hKm hKl h; simp only [exec] at h ⊢; exact ih st K Kn o hKm hKl h
 | _ => intro st K Kn o hKm hKl h; simp [exec] at h
end
end PX
set_option linter.unusedVariables false
set_option linter.unusedSimpArgs false
namespace PX
open Go
section
variable {E : Env}
theorem tA {Γn : Nat → Fun} {Γ : Fun} (hm : ∀ n, FLe (Γn n) (Γn (n + 1))) (hl : aab Γn Γ) {h1 h2 : Nat → Option Hint} : ∀ (n : Nat) (b : Code) (st : Sto) (K : Ex → Sto → Res) (Kn : Nat → Ex → Sto → Res) (o : Out),
  (∀ n, KLe (Kn n) (Kn (n + 1))) → adY Kn K → cS E Γ h1 h2 n b st K = some o → ∃ m, cS E (Γn m) h1 h2 m b st (Kn m) = some o
 | 0, b, st, K, Kn, o, hKm, hKl, h => by simp [cS] at h
 | n + 1, b, st, K, Kn, o, hKm, hKl, h => by
  rw [cS] at h
  split at h
  ·cases h
  ·rename_i hh hhe
   obtain ⟨st', c1, c2⟩ := Option.bind_eq_some_iff.1 h
   obtain ⟨m, hmm⟩ := n3 (Λn := fun m => cS E (Γn m) h1 h2 m) (Λ := cS E Γ h1 h2 n) hm hl (fun m => jJ (hm m) m) (fun b st K Kn o a1 a2 a3 => tA hm hl n b st K Kn o a1 a2 a3) b st' _
    (fun m => iX (fun st => cS E (Γn m) h1 h2 m b st (Kn m)) (Kn m)) o (fun m e s o' h' => by
     cases e <;> simp only [iX] at h' ⊢ <;> first | exact jJ (hm m) m _ _ _ _ _ (hKm m) h' | exact hKm m _ _ _ h') (fun e s o' h' => by
     cases e <;> simp only [iX] at h' ⊢ <;> first | exact tA hm hl n _ _ _ _ _ hKm hKl h' | exact hKl _ _ _ h') c2
   refine ⟨m + 2, jJ (FLe.of hm (show m ≤ m + 2 by omega)) (m + 1) b st (Kn m) (Kn (m + 2)) o (KLe.of hKm (by omega)) ?_⟩
   rw [cS, hhe]
   simp only [c1, Option.bind_some]
   exact hmm
open Classical in
noncomputable def aV (E : Env) : Fun := fun f a b r => if h : ∃ o n, kB E n f a b r = some o then some (Classical.choose h) else none
theorem vS : aab (kB E) (aV E) := by
 intro f a b r o h
 unfold aV at h
 split at h
 ·rename_i hh
  obtain rfl := Option.some.inj h
  exact Classical.choose_spec hh
 ·cases h
theorem adC {n : Nat} {f a b r o} (h : kB E n f a b r = some o) : aV E f a b r = some o := by
 unfold aV
 have hh : ∃ o n, kB E n f a b r = some o := ⟨o, n, h⟩
 rw [dif_pos hh]
 obtain ⟨m, hm⟩ := Classical.choose_spec hh
 have h1 := FLe.of lI (Nat.le_max_left n m) _ _ _ _ _ h
 have h2 := FLe.of lI (Nat.le_max_right n m) _ _ _ _ _ hm
 rw [h1] at h2
 exact congrArg some (Option.some.inj h2).symm
open Classical in
noncomputable def wR (E : Env) (h1 h2 : Nat → Option Hint) : Lam := fun b st K => if h : ∃ o n, cS E (aV E) h1 h2 n b st K = some o then some (Classical.choose h) else none
theorem acm {h1 h2} {b st K o} (h : wR E h1 h2 b st K = some o) : ∃ n, cS E (aV E) h1 h2 n b st K = some o := by
 unfold wR at h
 split at h
 ·rename_i hh
  obtain rfl := Option.some.inj h
  exact Classical.choose_spec hh
 ·cases h
theorem abS {Γ : Fun} {h1 h2} : ∀ {n : Nat} {b st K K' o}, KLe K K' → cS E Γ h1 h2 n b st K = some o → cS E Γ h1 h2 n b st K' = some o := by
 intro n
 induction n with
 | zero => intro b st K K' o hK h; simp [cS] at h
 | succ n ih =>
  intro b st K K' o hK h
  rw [cS] at h ⊢
  split at h
  ·cases h
  ·obtain ⟨st', c1, c2⟩ := Option.bind_eq_some_iff.1 h
   rw [c1]
   refine jU (Λ := cS E Γ h1 h2 n) (Λ' := cS E Γ h1 h2 n) (FLe.refl _) (fun b st K K' o hK h => ih hK h) b st' _ _ o (fun e s o' h' => ?_) c2
   cases e <;> simp only [iX] at h' ⊢ <;> first | exact ih hK h' | exact hK _ _ _ h'
theorem aaY {Γ : Fun} {h1 h2} {n m : Nat} (hnm : n ≤ m) : LLe (cS E Γ h1 h2 n) (cS E Γ h1 h2 m) := by
 induction hnm with
 | refl => intro b st K K' o hK h; exact abS hK h
 | step _ ih => intro b st K K' o hK h; exact jJ (FLe.refl _) _ _ _ _ _ _ (KLe.refl _) (ih _ _ _ _ _ hK h)
theorem ahU {h1 h2} {n : Nat} {b st K o} (h : cS E (aV E) h1 h2 n b st K = some o) : wR E h1 h2 b st K = some o := by
 unfold wR
 have hh : ∃ o n, cS E (aV E) h1 h2 n b st K = some o := ⟨o, n, h⟩
 rw [dif_pos hh]
 obtain ⟨m, hm⟩ := Classical.choose_spec hh
 have q1 := aaY (Nat.le_max_left n m) _ _ _ _ _ (KLe.refl _) h
 have q2 := aaY (Nat.le_max_right n m) _ _ _ _ _ (KLe.refl _) hm
 rw [q1] at q2
 exact congrArg some (Option.some.inj q2).symm
theorem aj3 {f a b r o} (hlib : E.lib f = none) (h : body E (aV E) (wR E (E.hl f) (E.hr f)) f a b r = some o) : aV E f a b r = some o := by
 unfold body at h
 split at h
 ·cases h
 rename_i fn hfn
 split at h
 ·cases h
 rename_i c hc
 split at h
 ·cases h
 rename_i ss tbs htm
 split at h
 ·cases h
 rename_i hok
 obtain ⟨n, hn⟩ := n3 (E := E) (Γn := kB E) (Λn := fun n => cS E (kB E n) (E.hl f) (E.hr f) n) lI vS (fun n => jJ (lI n) n)
  (fun b st K Kn o a1 a2 a3 => by obtain ⟨n, hn⟩ := acm a3; exact tA lI vS n b st K Kn o a1 a2 hn) c _ _ (fun _ => afH (uS E f fn ss tbs b.length) (E.pv f)) o (fun _ => KLe.refl _) (fun _ _ _ h => ⟨0, h⟩) h
 refine adC (n := n + 1) ?_
 rw [kB, hlib]
 simp only
 unfold body
 simp only [hfn, hc, htm, hok, if_false, Bool.false_eq_true]
 exact hn
theorem ags {f a b r o k} (hlib : E.lib f = some k) (h : xZ k a b r = some o) : aV E f a b r = some o :=
 adC (n := 1) (by
  rw [kB, hlib]
  cases k
  case guard g => simp [xZ] at h
  all_goals exact h)
section
variable {Γn : Nat → Fun} {Γ : Fun}
end
end
theorem aiR {P : Program} {E : Env} (EO : dE P E) (LO : xV P E) : tW P E (aV E) := by
 intro f a b r o h
 obtain ⟨n, hn⟩ := vS _ _ _ _ _ h
 exact adq EO LO n f a b r o hn
end PX
set_option linter.unusedVariables false
set_option linter.unusedSimpArgs false
namespace PX
open Go
abbrev kN := FuncId → List AV → List Bx → List Rw → (Out → Res) → Res
def fF (Γ : Fun) : kN := fun f a b r k => (Γ f a b r).bind k
def lU (C : kN) : Pr → Sto → Tr → (AV → Sto → Tr → Res) → (AV → Sto → Tr → Res) → Res
 | .done v, st, tr, k, _ => k v st tr
 | .fail, _, _, _, _ => none
 | .pan v, st, tr, _, kp => kp v st tr
 | .get l p, st, tr, k, kp => lU C (p (st l)) st (l :: tr.1, tr.2) k kp
 | .put l v p, st, tr, k, kp => lU C p (st.upd l v) (tr.1, l :: tr.2) k kp
 | .chk b p, st, tr, k, kp => cond b (lU C p st tr k kp) none
 | .ite b p q, st, tr, k, kp => cond b (lU C p st tr k kp) (lU C q st tr k kp)
 | .call f as bs rs p, st, tr, k, kp => C f as bs rs fun o => lU C (p o) st tr k kp
theorem aiB (Γ : Fun) : ∀ (p : Pr) (st : Sto) (tr : Tr) (k : AV → Sto → Tr → Res) (kp : AV → Sto → Tr → Res), lU (fF Γ) p st tr k kp = gI Γ p st tr k kp := by
 intro p
 induction p with
 | done v => intros; rfl
 | fail => intros; rfl
 | pan v => intros; rfl
 | get l q ih => intros; simp only [lU, gI]; exact ih _ _ _ _ _
 | put l v q ih => intros; simp only [lU, gI]; exact ih _ _ _ _
 | chk b q ih => intro st tr k kp; cases b <;> simp only [lU, gI, cond] <;> exact ih _ _ _ _
 | ite b q r ihq ihr => intro st tr k kp; cases b <;> simp only [lU, gI, cond] <;> first | exact ihq _ _ _ _ | exact ihr _ _ _ _
 | call f as bs rs q ih => intro st tr k kp; simp only [lU, gI, fF]; congr 1; funext o; exact ih _ _ _ _ _
def qT (E : Env) (C : kN) (ops : Array Oper) : List Oper → Sto → List Tr → (Sto → List Tr → Res) → (AV → Sto → List Tr → Res) → Res
 | [], st, ts, k, _ => k st ts
 | o :: r, st, ts, k, kp =>
  match o.guard with
  | none => lU C (iR E o) st ([], []) (fun v st' tr => qT E C ops r (putDst st' o.dst v) (fK tr o.dst :: ts) k kp) (fun v S tr => kp v S (tr :: ts))
  | some (j, want) =>
   match (ops[j]?).bind (·.dst) with
   | none => none
   | some t =>
    match st (.tm t) with
    | .av (.d (.bool b)) =>
     cond b
     (if want then lU C (iR E o) (st.upd (.tm t) (.av (.d (.bool true)))) ([.tm t], []) (fun v st' tr => qT E C ops r (putDst st' o.dst v) (fK tr o.dst :: ts) k kp) (fun v S tr => kp v S (tr :: ts))
      else qT E C ops r (putDst (st.upd (.tm t) (.av (.d (.bool true)))) o.dst .undf) (fK ([.tm t], []) o.dst :: ts) k kp)
     (if want then qT E C ops r (putDst (st.upd (.tm t) (.av (.d (.bool false)))) o.dst .undf) (fK ([.tm t], []) o.dst :: ts) k kp
      else lU C (iR E o) (st.upd (.tm t) (.av (.d (.bool false)))) ([.tm t], []) (fun v st' tr => qT E C ops r (putDst st' o.dst v) (fK tr o.dst :: ts) k kp) (fun v S tr => kp v S (tr :: ts)))
    | .av .undf => qT E C ops r (putDst st o.dst .undf) (fK ([.tm t], []) o.dst :: ts) k kp
    | _ => none
theorem abW {E : Env} (Γ : Fun) {ops : Array Oper} {k : Sto → List Tr → Res} {kp : AV → Sto → List Tr → Res} : ∀ (l : List Oper) (st : Sto) (ts : List Tr),
  qT E (fF Γ) ops l st ts k kp = dJ E Γ ops l st ts k kp
 | [], st, ts => rfl
 | q :: r, st, ts => by
  have ih := abW (E := E) Γ (ops := ops) (k := k) (kp := kp) r
  unfold qT dJ
  simp only [aiB, ih]
  cases hq : q.guard with
  | none => rfl
  | some p =>
   obtain ⟨j, want⟩ := p
   simp only
   cases hj : (ops[j]?).bind (·.dst) with
   | none => rfl
   | some t =>
    simp only
    generalize st (.tm t) = x
    split
    ·rename_i b
     cases b <;> rfl
    ·rfl
    ·rename_i h1 h2
     split
     ·exact absurd rfl (h1 _)
     ·exact absurd rfl h2
     ·rfl
def ajK (E : Env) (C : kN) (ops : Array Oper) (draw : Bool) (st : Sto) (K : Ex → Sto → Res) : Res :=
 qT E C ops ops.toList st [] (fun st' ts =>
  if draw then (if gA ops && jP (Region.before ops) ts then K .normal st' else none) else K .normal st') (fun v S ts => if draw then (if gA ops && vH ops ts then K (.pan v) Sto.nil else none) else K (.pan v) (g4 S))
def J0 (E : Env) (C : kN) : Lam
 | .region _ ops draw, st, K => ajK E C ops draw st K
 | _, _, _ => none
noncomputable def kQ (E : Env) (C : kN) (Λ : Lam) (J : Lam) (hr : Nat → Option Hint) : Code → Sto → (Ex → Sto → Res) → Res
 | .skip, st, K => K .normal st
 | .label _, st, K => K .normal st
 | .region id ops draw, st, K =>
  match hr id with
  | some h => (canon h st).bind fun st' => J (.region id ops draw) st' K
  | none => ajK E C ops draw st K
 | .seq a b, st, K => kQ E C Λ J hr a st fun e st' => match e with | .normal => kQ E C Λ J hr b st' K | e => K e st'
 | .cond c t e, st, K =>
  match c with
  | .tmp i => match st (.tm i) with
   | .av (.d (.bool b)) => cond b (kQ E C Λ J hr t (st.upd (.tm i) (.av (.d (.bool true)))) K) (kQ E C Λ J hr e (st.upd (.tm i) (.av (.d (.bool false)))) K)
   | .av .anyb => vA (kQ E C Λ J hr t (st.upd (.tm i) (.av (.d (.bool true)))) K) (kQ E C Λ J hr e (st.upd (.tm i) (.av (.d (.bool false)))) K)
   | _ => none
  | .const (.bool b) => match b with
   | true => kQ E C Λ J hr t st K
   | false => kQ E C Λ J hr e st K
  | _ => none
 | .block id b, st, K => kQ E C Λ J hr b st fun e st' => match e with
  | .exit i => if Nat.beq i id then K .normal st' else K (.exit i) st'
  | e => K e st'
 | .loop b, st, K => Λ b st K
 | .scope b, st, K => kQ E C Λ J hr b st K
 | .exit id, st, K => K (.exit id) st
 | .ret, st, K => K .ret st
 | _, _, _ => none
theorem ae2 {E : Env} (Γ : Fun) (Λ : Lam) (hr : Nat → Option Hint) : ∀ (c : Code) (st : Sto) (K : Ex → Sto → Res), kQ E (fF Γ) Λ (J0 E (fF Γ)) hr c st K = exec E Γ Λ hr c st K := by
 intro c
 induction c with
 | region id ops draw =>
  intro st K
  unfold kQ exec
  simp only [J0, ajK, abW]
  cases hr id <;> rfl
 | seq x y ihx ihy =>
  intro st K
  simp only [kQ, exec, ihx]
  congr 1
  funext e s
  cases e <;> simp only [ihy]
 | cond c x y ihx ihy =>
  intro st K
  unfold kQ exec
  simp only [ihx, ihy]
  cases c with
  | tmp i =>
   simp only
   generalize st (.tm i) = x
   split
   ·rename_i b
    cases b <;> rfl
   ·rfl
   ·rename_i h1 h2
    split
    ·exact absurd rfl (h1 _)
    ·exact absurd rfl h2
    ·rfl
  | const v => cases v <;> first | rfl | (rename_i b; cases b <;> rfl)
  | _ => rfl
 | block id b ih => intro st K; simp only [kQ, exec, ih]; rfl
 | scope b ih => intro st K; simp only [kQ, exec, ih]
 | _ => intros; first | rfl | simp [kQ, exec]
def afp (hl : Nat → Option Hint) (Λ2 : Lam) : Lam := fun b st K => match hl (o5 b) with
 | none => none
 | some h => (canon h st).bind fun st' => Λ2 b st' K
section
variable {E : Env}
open Classical in
noncomputable def wT (E : Env) (Γ : Fun) (h1 h2 : Nat → Option Hint) : Lam := fun b st K => if h : ∃ o n, cS E Γ h1 h2 n b st K = some o then some (Classical.choose h) else none
theorem zL {Γ h1 h2} {b st K o} (h : wT E Γ h1 h2 b st K = some o) : ∃ n, cS E Γ h1 h2 n b st K = some o := by
 unfold wT at h
 split at h
 ·rename_i hh
  obtain rfl := Option.some.inj h
  exact Classical.choose_spec hh
 ·cases h
theorem ad1 {Γ : Fun} {h1 h2} {n : Nat} {b st K o} (h : cS E Γ h1 h2 n b st K = some o) : wT E Γ h1 h2 b st K = some o := by
 unfold wT
 have hh : ∃ o n, cS E Γ h1 h2 n b st K = some o := ⟨o, n, h⟩
 rw [dif_pos hh]
 obtain ⟨m, hm⟩ := Classical.choose_spec hh
 have q1 := aaY (Nat.le_max_left n m) _ _ _ _ _ (KLe.refl _) h
 have q2 := aaY (Nat.le_max_right n m) _ _ _ _ _ (KLe.refl _) hm
 rw [q1] at q2
 exact congrArg some (Option.some.inj q2).symm
noncomputable def aak (E : Env) (Γ : Fun) (hl hr : Nat → Option Hint) : Lam := fun b st K => exec E Γ (wT E Γ hl hr) hr b st (iX (fun st => wT E Γ hl hr b st K) K)
theorem ahY (Γ : Fun) (hl hr : Nat → Option Hint) : wT E Γ hl hr = afp hl (aak E Γ hl hr) := by
 funext b st K
 apply Option.ext
 intro o
 constructor
 ·intro h
  obtain ⟨n, hn⟩ := zL h
  cases n with
  | zero => simp [cS] at hn
  | succ n =>
   rw [cS] at hn
   unfold afp
   split at hn
   ·cases hn
   ·rename_i hh hhe
    obtain ⟨st', c1, c2⟩ := Option.bind_eq_some_iff.1 hn
    rw [hhe]
    simp only [c1, Option.bind_some]
    refine jU (Λ := cS E Γ hl hr n) (FLe.refl _) (fun b st K K' o hK h => ad1 (abS hK h)) b st' _ _ o (fun e s o' h' => ?_) c2
    cases e <;> simp only [iX] at h' ⊢ <;> first | exact ad1 h' | exact h'
 ·intro h
  unfold afp at h
  split at h
  ·cases h
  ·rename_i hh hhe
   obtain ⟨st', c1, c2⟩ := Option.bind_eq_some_iff.1 h
   obtain ⟨n, hn⟩ := n3 (E := E) (Γn := fun _ => Γ) (Γ := Γ) (Λn := fun n => cS E Γ hl hr n) (fun _ => FLe.refl _) (fun _ _ _ _ _ h => ⟨0, h⟩) (fun n => jJ (FLe.refl _) n)
    (fun b st K Kn o a1 a2 a3 => by obtain ⟨n, hn⟩ := zL a3; exact tA (Γn := fun _ => Γ) (fun _ => FLe.refl _) (fun _ _ _ _ _ h => ⟨0, h⟩) n b st K Kn o a1 a2 hn) b st' _
    (fun n => iX (fun st => cS E Γ hl hr n b st K) K) o (fun n e s o' h' => by
     cases e <;> simp only [iX] at h' ⊢ <;> first | exact jJ (FLe.refl _) n _ _ _ _ _ (KLe.refl _) h' | exact h') (fun e s o' h' => by
     cases e <;> simp only [iX] at h' ⊢ <;> first | exact zL h' | exact ⟨0, h'⟩) c2
   refine ad1 (n := n + 1) ?_
   rw [cS, hhe]
   simp only [c1, Option.bind_some]
   exact hn
theorem ald {Γ : Fun} (hΓ : FLe Γ (aV E)) {h1 h2} : LLe (wT E Γ h1 h2) (wR E h1 h2) := by
 intro b st K K' o hK h
 obtain ⟨n, hn⟩ := zL h
 have : ∀ n, LLe (cS E Γ h1 h2 n) (cS E (aV E) h1 h2 n) := by
  intro n
  induction n with
  | zero => intro b st K K' o hK h; simp [cS] at h
  | succ n ih =>
   intro b st K K' o hK h
   rw [cS] at h ⊢
   split at h
   ·cases h
   ·obtain ⟨st', h1, h2⟩ := Option.bind_eq_some_iff.1 h
    rw [h1]
    refine jU hΓ ih b st' _ _ o (fun e s o' h' => ?_) h2
    cases e <;> simp only [iX] at h' ⊢ <;> first | exact ih _ _ _ _ _ hK h' | exact hK _ _ _ h'
 exact ahU (this n _ _ _ _ _ hK hn)
end
noncomputable def aeV (E : Env) (C : kN) (Λ2 J : Lam) (f : FuncId) (args : List AV) (bs : List Bx) (rs : List Rw) : Res :=
 match E.fn f with
 | none => none
 | some fn => match fn.body with
  | none => none
  | some c => match E.tm f with
   | none => none
   | some (ss, tbs) =>
    if !(codeOk fn.ntmps c && Nat.ble args.length fn.ntmps) then none else kQ E C (afp (E.hl f) Λ2) J (E.hr f) c (sM 0 args (inSto bs rs)) (afH (uS E f fn ss tbs bs.length) (E.pv f))
noncomputable def nav (E : Env) (C : kN) (Λ J : Lam) (hr : Nat → Option Hint) : List Nat → Code → (Ex → Sto → Res) → Code × (Ex → Sto → Res)
 | [], c, K => (c, K)
 | i :: p, c, K =>
  match c with
  | .seq a b => match i with
   | 0 => nav E C Λ J hr p a fun e st' => match e with | .normal => kQ E C Λ J hr b st' K | e => K e st'
   | _ + 1 => nav E C Λ J hr p b K
  | .cond _ a b => match i with
   | 0 => nav E C Λ J hr p a K
   | _ + 1 => nav E C Λ J hr p b K
  | .block id b => nav E C Λ J hr p b fun e st' => match e with
   | .exit i => if Nat.beq i id then K .normal st' else K (.exit i) st'
   | e => K e st'
  | .loop b => nav E C Λ J hr p b (iX (fun st => Λ b st K) K)
  | .scope b => nav E C Λ J hr p b K
  | c => (c, K)
def amx (Λ2 J : Lam) (x : Code × (Ex → Sto → Res)) (st : Sto) : Res :=
 match x with
 | (.loop b, K) => Λ2 b st K
 | (c, K) => J c st K
noncomputable def akm (E : Env) (C : kN) (Λ J : Lam) (hr : Nat → Option Hint) (x : Code × (Ex → Sto → Res)) (st : Sto) : Res :=
 match x with
 | (.loop b, K) => kQ E C Λ J hr b st (iX (fun st => Λ b st K) K)
 | (.region _ ops draw, K) => ajK E C ops draw st K
 | _ => none
noncomputable def alL (E : Env) (C : kN) (Λ2 J : Lam) (f : FuncId) (nb : Nat) (p : List Nat) : Code × (Ex → Sto → Res) :=
 match E.fn f with
 | none => (.skip, fun _ _ => none)
 | some fn => match fn.body with
  | none => (.skip, fun _ _ => none)
  | some c => match E.tm f with
   | none => (.skip, fun _ _ => none)
   | some (ss, tbs) => nav E C (afp (E.hl f) Λ2) J (E.hr f) p c (afH (uS E f fn ss tbs nb) (E.pv f))
noncomputable def lab (E : Env) (C : kN) (Λ2 J : Lam) (f : FuncId) (nb : Nat) (p : List Nat) (st : Sto) : Res := amx Λ2 J (alL E C Λ2 J f nb p) st
noncomputable def ahL (E : Env) (C : kN) (Λ2 J : Lam) (f : FuncId) (nb : Nat) (p : List Nat) (st : Sto) : Res := akm E C (afp (E.hl f) Λ2) J (E.hr f) (alL E C Λ2 J f nb p) st
section
variable {E : Env}
theorem ajd (Γ : Fun) (f a b r) : aeV E (fF Γ) (aak E Γ (E.hl f) (E.hr f)) (J0 E (fF Γ)) f a b r = body E Γ (wT E Γ (E.hl f) (E.hr f)) f a b r := by
 unfold aeV body
 simp only [ae2, ← ahY]
 cases E.fn f with
 | none => rfl
 | some fn =>
  rcases fn with ⟨_, _, _, _, _, _, _, _, bo⟩
  cases bo with
  | none => rfl
  | some c => rfl
theorem ahp (Γ : Fun) (f nb p st) : lab E (fF Γ) (aak E Γ (E.hl f) (E.hr f)) (J0 E (fF Γ)) f nb p st = ahL E (fF Γ) (aak E Γ (E.hl f) (E.hr f)) (J0 E (fF Γ)) f nb p st := by
 unfold lab ahL amx akm
 generalize alL E (fF Γ) (aak E Γ (E.hl f) (E.hr f)) (J0 E (fF Γ)) f nb p = x
 obtain ⟨c, K⟩ := x
 cases c <;> simp only [J0, ae2, ← ahY] <;> rfl
end
def Le (x y : Res) : Prop := ∀ o, x = some o → y = some o
theorem Le.refl (x : Res) : Le x x := fun _ h => h
theorem Le.trans {x y z : Res} (h : Le x y) (g : Le y z) : Le x z := fun _ e => g _ (h _ e)
theorem le_none {R : Type} {e : R → Out} {y : Res} : Le (Option.map e none) y := fun _ h => by cases h
theorem aK {R : Type} {e : R → Out} {r : R} {o : Out} (h : e r = o) : Le (Option.map e (some r)) (some o) := by subst h; exact Le.refl _
open Classical in
def aaZ {R : Type} [DecidableEq R] (a b : Option R) : Option R := if a = b then a else none
theorem aa0 {R : Type} [DecidableEq R] (a : Option R) : aaZ a a = a := by unfold aaZ; simp
theorem afy {R : Type} [DecidableEq R] {e : R → Out} {a b : Option R} {a' b' : Res} (h1 : Le (a.map e) a') (h2 : Le (b.map e) b') : Le ((aaZ a b).map e) (vA a' b') := by
 intro o ho
 unfold aaZ at ho
 split at ho
 ·rename_i hab
  subst hab
  rw [h1 o ho, h2 o ho]
  exact aaS _
 ·cases ho
theorem acF {R : Type} {e : R → Out} {c c' : Bool} {a b : Option R} {a' b' : Res} (hc : c = c') (h1 : c = true → Le (a.map e) a') (h2 : c = false → Le (b.map e) b') : Le ((cond c a b).map e) (cond c' a' b') := by
 subst hc; cases c
 ·exact h2 rfl
 ·exact h1 rfl
theorem le_of_eq {x y : Res} (h : x = y) : Le x y := h ▸ Le.refl _
open Classical in
noncomputable def gM (E : Env) (good : FuncId → Out → Prop) : Fun := fun f a b r => (aV E f a b r).bind fun o => if good f o then some o else none
open Classical in
noncomputable def aen (E : Env) (good : FuncId → Out → Prop) (g : FuncId) {R : Type} (out : R → Out) (a : List AV) (b : List Bx) (r : List Rw) (κ : R → Res) : Res :=
 (gM E good g a b r).bind fun o => if h : ∃ x, out x = o then κ (Classical.choose h) else none
def alP (C : kN) (g : FuncId) {R : Type} (out : R → Out) (γ : List AV → List Bx → List Rw → (R → Res) → Res) : kN := fun f a b r k => bif Nat.beq f g then γ a b r (fun x => k (out x)) else C f a b r k
section
variable {E : Env} {good : FuncId → Out → Prop}
theorem ahP : FLe (gM E good) (aV E) := by
 intro f a b r o h
 unfold gM at h
 obtain ⟨o', h1, h2⟩ := Option.bind_eq_some_iff.1 h
 split at h2
 ·rw [← h2]; exact h1
 ·cases h2
theorem akq {g : FuncId} {R : Type} {out : R → Out} (hg : ∀ o, good g o → ∃ x, out x = o) : alP (fF (gM E good)) g out (aen E good g out) = fF (gM E good) := by
 funext f a b r k
 unfold alP
 cases hfg : Nat.beq f g
 ·rfl
 ·have := Nat.eq_of_beq_eq_true hfg; subst this
  simp only [cond_true]
  unfold aen fF
  unfold gM
  cases aV E f a b r with
  | none => rfl
  | some o =>
   simp only [Option.bind_some]
   split
   ·rename_i hgo
    have hx := hg o hgo
    simp only [Option.bind_some]
    rw [dif_pos hx, Classical.choose_spec hx]
   ·rfl
theorem anB {g : FuncId} {R S : Type} {out : R → Out} {e : S → Out} {x : Option R} {M : R → Option S} {a : List AV} {b : List Bx} {r : List Rw} {κ : R → Res}
  (hg : ∀ y, good g (out y)) (hi : ∀ y z, out y = out z → y = z) (h : Le (x.map out) (aV E g a b r)) (hk : ∀ y, x = some y → Le ((M y).map e) (κ y)) : Le ((x.bind M).map e) (aen E good g out a b r κ) := by
 intro o ho
 cases x with
 | none => cases ho
 | some y =>
  have h1 := h (out y) rfl
  unfold aen gM
  rw [h1]
  simp only [Option.bind_some, if_pos (hg y)]
  have hx : ∃ z, out z = out y := ⟨y, rfl⟩
  rw [dif_pos hx, hi _ _ (Classical.choose_spec hx)]
  exact hk y rfl o ho
theorem ai1 {x : Res} {f a b r} (hlib : E.lib f = none) (h : Le x (aeV E (fF (gM E good)) (aak E (gM E good) (E.hl f) (E.hr f)) (J0 E (fF (gM E good))) f a b r)) : Le x (aV E f a b r) := by
 intro o ho
 have h1 := h o ho
 rw [ajd] at h1
 exact aj3 hlib (af3 ahP (ald ahP) f a b r o h1)
end
end PX
set_option linter.unusedVariables false
set_option linter.unusedSimpArgs false
namespace PX
open Go
def aa7 {Q R S : Type} (x : Option (Q ⊕ R)) (kp : Q → Option S) (k : R → Option S) : Option S :=
 match x with
 | none => none
 | some (.inl q) => kp q
 | some (.inr r) => k r
def apW : AV → AV | .ifc _ v => v | v => v
abbrev Gp (Q R : Type) := List AV → List Bx → List Rw → (Q → Res) → (R → Res) → Res
def ajG (C : kN) (g : FuncId) {Q R : Type} (out : Q ⊕ R → Out) (γ : Gp Q R) : kN := fun f a b r k => bif Nat.beq f g then γ a b r (fun x => k (out (.inl x))) (fun x => k (out (.inr x))) else C f a b r k
section
variable {E : Env} {good : FuncId → Out → Prop}
open Classical in
noncomputable def acN (E : Env) (good : FuncId → Out → Prop) (g : FuncId) {Q R : Type} (out : Q ⊕ R → Out) : Gp Q R := fun a b r κp κ =>
 (gM E good g a b r).bind fun o => if h : ∃ x, out x = o then (match Classical.choose h with | .inl q => κp q | .inr x => κ x) else none
theorem agu {g : FuncId} {Q R : Type} {out : Q ⊕ R → Out} (hg : ∀ o, good g o → ∃ x, out x = o) : ajG (fF (gM E good)) g out (acN E good g out) = fF (gM E good) := by
 funext f a b r k
 unfold ajG
 cases hfg : Nat.beq f g
 ·rfl
 ·have := Nat.eq_of_beq_eq_true hfg; subst this
  simp only [cond_true]
  unfold acN fF
  unfold gM
  cases aV E f a b r with
  | none => rfl
  | some o =>
   simp only [Option.bind_some]
   split
   ·rename_i hgo
    have hx := hg o hgo
    simp only [Option.bind_some]
    rw [dif_pos hx]
    have e := Classical.choose_spec hx
    cases hc : Classical.choose hx with
    | inl q => rw [hc] at e; simp only [e]
    | inr q => rw [hc] at e; simp only [e]
   ·rfl
theorem ahI {g : FuncId} {Q R S : Type} {out : Q ⊕ R → Out} {e : S → Out} {x : Option (Q ⊕ R)} {Mp : Q → Option S} {M : R → Option S} {a : List AV} {b : List Bx} {r : List Rw} {κp : Q → Res} {κ : R → Res}
  (hg : ∀ y, good g (out y)) (hi : ∀ y z, out y = out z → y = z) (h : Le (x.map out) (aV E g a b r)) (hp : ∀ y, x = some (.inl y) → Le ((Mp y).map e) (κp y)) (hk : ∀ y, x = some (.inr y) → Le ((M y).map e) (κ y)) :
  Le ((aa7 x Mp M).map e) (acN E good g out a b r κp κ) := by
 intro o ho
 cases x with
 | none => cases ho
 | some y =>
  have h1 := h (out y) rfl
  unfold acN gM
  rw [h1]
  simp only [Option.bind_some, if_pos (hg y)]
  have hx : ∃ z, out z = out y := ⟨y, rfl⟩
  rw [dif_pos hx, hi _ _ (Classical.choose_spec hx)]
  cases y with
  | inl q => exact hp q rfl o ho
  | inr q => exact hk q rfl o ho
end
end PX
set_option linter.unusedVariables false
set_option linter.unusedSimpArgs false
namespace PX
open Go
def aim {A B R : Type} (f : A → R) (g : B → R) : A ⊕ B → R
 | .inl a => f a
 | .inr b => g b
def vU {A B : Type} (f : A → Out) (g : B → Out) : A ⊕ B → Out := aim f g
theorem oW {A B : Type} {P : A ⊕ B → Prop} (h : ∀ a, P (.inl a)) (g : ∀ b, P (.inr b)) : ∀ s, P s
 | .inl a => h a
 | .inr b => g b
theorem qJ {A B : Type} {f : A → Out} {g : B → Out} {k : Option Nat} (hf : ∀ y z, f y = f z → y = z) (hg : ∀ y z, g y = g z → y = z) (h1 : ∀ a, keyOf (Out.res (f a)) = k) (h2 : ∀ b, ¬ keyOf (Out.res (g b)) = k) :
  ∀ y z, vU f g y = vU f g z → y = z
 | .inl a, .inl b, h => congrArg Sum.inl (hf a b h)
 | .inr a, .inr b, h => congrArg Sum.inr (hg a b h)
 | .inl a, .inr b, h => absurd ((congrArg (fun o => keyOf (Out.res o)) h).symm.trans (h1 a)) (h2 b)
 | .inr a, .inl b, h => absurd ((congrArg (fun o => keyOf (Out.res o)) h).trans (h1 b)) (h2 a)
abbrev S6 (A B C D E F : Type) := A ⊕ (B ⊕ (C ⊕ (D ⊕ (E ⊕ F))))
def al6 {A B C D E R : Type} (k1 : A → R) (k2 : B → R) (k3 : C → R) (k4 : D → R) (k5 : E → R) : A ⊕ (B ⊕ (C ⊕ (D ⊕ E))) → R := aim k1 (aim k2 (aim k3 (aim k4 k5)))
def ajF {A B C D E F S : Type} (x : Option (S6 A B C D E F)) (k0 : A → Option S) (k1 : B → Option S) (k2 : C → Option S) (k3 : D → Option S) (k4 : E → Option S) (k5 : F → Option S) : Option S :=
 aa7 x k0 (al6 k1 k2 k3 k4 k5)
abbrev G6 (A B C D E F : Type) := List AV → List Bx → List Rw → (A → Res) → (B → Res) → (C → Res) → (D → Res) → (E → Res) → (F → Res) → Res
def amc (K : kN) (g : FuncId) {A B C D E F : Type} (out : S6 A B C D E F → Out) (γ : G6 A B C D E F) : kN := fun f a b r k => bif Nat.beq f g then
  γ a b r (fun x => k (out (.inl x))) (fun x => k (out (.inr (.inl x)))) (fun x => k (out (.inr (.inr (.inl x))))) (fun x => k (out (.inr (.inr (.inr (.inl x)))))) (fun x => k (out (.inr (.inr (.inr (.inr (.inl x))))))) (fun x => k (out (.inr (.inr (.inr (.inr (.inr x)))))))
 else K f a b r k
section
variable {V : Env} {good : FuncId → Out → Prop}
noncomputable def call6 (V : Env) (good : FuncId → Out → Prop) (g : FuncId) {A B C D E F : Type} (out : S6 A B C D E F → Out) : G6 A B C D E F := fun a b r k0 k1 k2 k3 k4 k5 =>
 acN V good g out a b r k0 (al6 k1 k2 k3 k4 k5)
theorem ak0 {g : FuncId} {A B C D E F : Type} {out : S6 A B C D E F → Out} (hg : ∀ o, good g o → ∃ x, out x = o) : amc (fF (gM V good)) g out (call6 V good g out) = fF (gM V good) := by
 refine Eq.trans ?_ (agu hg)
 funext f a b r k
 unfold amc ajG call6
 have : (al6 (fun x => k (out (.inr (.inl x)))) (fun x => k (out (.inr (.inr (.inl x))))) (fun x => k (out (.inr (.inr (.inr (.inl x)))))) (fun x => k (out (.inr (.inr (.inr (.inr (.inl x))))))) (fun x => k (out (.inr (.inr (.inr (.inr (.inr x)))))))) = fun x => k (out (.inr x)) := by
  funext s
  rcases s with _ | _ | _ | _ | _ <;> rfl
 rw [this]
theorem alD {g : FuncId} {A B C D E F S : Type} {out : S6 A B C D E F → Out} {e : S → Out} {x : Option (S6 A B C D E F)} {a : List AV} {b : List Bx} {r : List Rw}
  {m0 : A → Option S} {m1 : B → Option S} {m2 : C → Option S} {m3 : D → Option S} {m4 : E → Option S} {m5 : F → Option S} {k0 : A → Res} {k1 : B → Res} {k2 : C → Res} {k3 : D → Res} {k4 : E → Res} {k5 : F → Res}
  (hg : ∀ y, good g (out y)) (hi : ∀ y z, out y = out z → y = z) (h : Le (x.map out) (aV V g a b r))
  (h0 : ∀ y, x = some (.inl y) → Le ((m0 y).map e) (k0 y)) (h1 : ∀ y, x = some (.inr (.inl y)) → Le ((m1 y).map e) (k1 y)) (h2 : ∀ y, x = some (.inr (.inr (.inl y))) → Le ((m2 y).map e) (k2 y))
  (h3 : ∀ y, x = some (.inr (.inr (.inr (.inl y)))) → Le ((m3 y).map e) (k3 y)) (h4 : ∀ y, x = some (.inr (.inr (.inr (.inr (.inl y))))) → Le ((m4 y).map e) (k4 y)) (h5 : ∀ y, x = some (.inr (.inr (.inr (.inr (.inr y))))) → Le ((m5 y).map e) (k5 y)) :
  Le ((ajF x m0 m1 m2 m3 m4 m5).map e) (call6 V good g out a b r k0 k1 k2 k3 k4 k5) :=
 ahI hg hi h h0 (fun y hy => by
  rcases y with y | y | y | y | y
  ·exact h1 y hy
  ·exact h2 y hy
  ·exact h3 y hy
  ·exact h4 y hy
  ·exact h5 y hy)
end
end PX
namespace PX
open Go
abbrev Str := List UInt8
def Injective {α β : Type} (f : α → β) : Prop := ∀ ⦃a b : α⦄, f a = f b → a = b
def an5 : List (Nat × AV) → Sto → Sto
 | [], s => s
 | (t, a) :: r, s => an5 r (s.upd (.tm t) (.av a))
def amH : List (Nat × Rw) → Sto → Sto
 | [], s => s
 | (n, x) :: r, s => amH r (s.upd (.rw n) (.row x.ks x.e x.bytes x.xs false))
def anW : List (Nat × (List UInt8 × Nat)) → Sto → Sto
 | [], s => s
 | (n, x) :: r, s => anW r (s.upd (.it n) (.iter x.1 x.2))
def cL (tmps : List (Nat × AV)) (boxes lent : List Bx) (its : List (Nat × (List UInt8 × Nat))) (rows : List (Nat × Rw)) : Sto :=
 amH rows (anW its (bO 2000000000 lent (bO 1000000000 boxes (an5 tmps Sto.nil))))
def encI (k : IntKind) (n : Int) : List D := [.int k n]
def sZ (b : Bool) : List D := [.bool b]
def bM (s : Str) : List D := [.str s]
def af0 {α : Type} (ks : List CK) (f : α → List D) (l : List α) : List D := [.sl ks (l.map f)]
theorem aau {α β : Type} [Inhabited α] {f : α → List D} {g : D → β} {p : α → β} {j : Nat} (h1 : ∀ a, g (cellAt (f a) j) = p a) (h2 : g .und = p default) (l : List α) (i : Nat) :
  g (cellAt (elemAt (l.map f) i) j) = p (l.getD i default) := by
 unfold elemAt
 by_cases hi : i < l.length
 ·rw [List.getD_eq_getElem?_getD, List.getElem?_eq_getElem (by simpa using hi), List.getD_eq_getElem?_getD, List.getElem?_eq_getElem hi]
  simp [h1]
 ·rw [List.getD_eq_getElem?_getD, List.getElem?_eq_none (by simpa using hi), List.getD_eq_getElem?_getD, List.getElem?_eq_none (by omega)]
  simpa [cellAt] using h2
theorem y8 (k : IntKind) (l : List Int) (i : Nat) : aM (cellAt (elemAt (l.map (encI k)) i) 0) = l.getD i default := aau (f := encI k) (g := aM) (p := fun x => x) (fun _ => rfl) rfl l i
theorem aoX (l : List Bool) (i : Nat) : bC (cellAt (elemAt (l.map sZ) i) 0) = l.getD i default := aau (f := sZ) (g := bC) (p := fun x => x) (fun _ => rfl) rfl l i
theorem aoO (l : List Str) (i : Nat) : aX (cellAt (elemAt (l.map bM) i) 0) = l.getD i default := aau (f := bM) (g := aX) (p := fun x => x) (fun _ => rfl) rfl l i
theorem aoY {α : Type} (ks : List CK) (f : α → List D) (l : List (List α)) (i : Nat) : dSl (cellAt (elemAt (l.map (af0 ks f)) i) 0) = (l.getD i default).map f := aau (f := af0 ks f) (g := dSl) (p := fun x => x.map f) (fun _ => rfl) rfl l i
theorem alp {α : Type} (f : α → List D) (l r : List α) : l.map f ++ r.map f = (l ++ r).map f := (List.map_append ..).symm
theorem akI {α : Type} (f : α → List D) (l : List α) (n : Nat) : (l.map f).take n = (l.take n).map f := (List.map_take ..).symm
theorem ak3 {α : Type} (f : α → List D) (l : List α) (n : Nat) : (l.map f).drop n = (l.drop n).map f := (List.map_drop ..).symm
theorem amt {α : Type} (f : α → List D) (l : List α) : List.isEmpty (l.map f) = List.isEmpty l := by cases l <;> rfl
theorem alH {α : Type} (f : α → List D) (l : List α) : (l.map f).length = l.length := List.length_map ..
theorem amq {α : Type} (f : α → List D) (l : List α) (lo hi : Option Int) : fE (l.map f) lo hi = (fE l lo hi).map f := by
 cases lo <;> cases hi <;> simp [fE, List.map_take, List.map_drop]
theorem aoe (k : IntKind) (n : Int) : [[D.int k n]] = [n].map (encI k) := rfl
theorem aok (b : Bool) : [[D.bool b]] = [b].map sZ := rfl
theorem an4 (s : Str) : [[D.str s]] = [s].map bM := rfl
def ofStr (s : Str) : List Int := s.map fun b => (b.toNat : Int)
def bytesOf (l : List Int) : Str := l.map fun n => UInt8.ofNat n.toNat
theorem agY (s : Str) : fV s = (ofStr s).map (encI .u8) := by simp [fV, ofStr, encI, Function.comp_def]
theorem aiE (l : List Int) : aas (l.map (encI .u8)) = bytesOf l := by simp [aas, bytesOf, encI, Function.comp_def, cellAt, aM]
def uT (xs : List (List D)) (i off : Nat) (ds : List D) : List (List D) := xs.set i ((elemAt xs i).take off ++ ds ++ (elemAt xs i).drop (off + ds.length))
theorem abl {α : Type} [Inhabited α] (f : α → List D) (off : Nat) (ds : List D) (g : α → α) (hf : ∀ a, (f a).take off ++ ds ++ (f a).drop (off + ds.length) = f (g a)) (l : List α) (i : Nat) :
  uT (l.map f) i off ds = (l.set i (g (l.getD i default))).map f := by
 unfold uT
 by_cases hi : i < l.length
 ·have : elemAt (l.map f) i = f (l.getD i default) := by
   unfold elemAt
   rw [List.getD_eq_getElem?_getD, List.getElem?_eq_getElem (by simpa using hi), List.getD_eq_getElem?_getD, List.getElem?_eq_getElem hi]
   simp
  rw [this, hf, List.map_set]
 ·rw [List.set_eq_of_length_le (by simpa using hi), List.set_eq_of_length_le (by omega)]
theorem aoI (k : IntKind) (n : Int) (l : List Int) (i : Nat) : uT (l.map (encI k)) i 0 [.int k n] = (l.set i n).map (encI k) := abl _ _ _ (fun _ => n) (fun _ => rfl) l i
theorem aoP (b : Bool) (l : List Bool) (i : Nat) : uT (l.map sZ) i 0 [.bool b] = (l.set i b).map sZ := abl _ _ _ (fun _ => b) (fun _ => rfl) l i
theorem aoZ (s : Str) (l : List Str) (i : Nat) : uT (l.map bM) i 0 [.str s] = (l.set i s).map bM := abl _ _ _ (fun _ => s) (fun _ => rfl) l i
theorem aoF (k : IntKind) (n : Nat) : List.replicate n [D.int k 0] = (List.replicate n (default : Int)).map (encI k) := by rw [List.map_replicate]; rfl
theorem aoD (n : Nat) : List.replicate n [D.bool false] = (List.replicate n (default : Bool)).map sZ := by rw [List.map_replicate]; rfl
theorem aoU (n : Nat) : List.replicate n [D.str []] = (List.replicate n (default : Str)).map bM := by rw [List.map_replicate]; rfl
theorem aa2 (k : IntKind) : Injective (encI k) := fun a b h => by simpa [encI] using h
theorem ah8 : Injective bM := fun a b h => by simpa [bM] using h
theorem map_inj {α β : Type} {f : α → β} (h : Injective f) : ∀ {l r : List α}, l.map f = r.map f → l = r
 | [], [], _ => rfl
 | [], _ :: _, e => by simp at e
 | _ :: _, [], e => by simp at e
 | a :: l, b :: r, e => by
  simp only [List.map_cons, List.cons.injEq] at e
  rw [h e.1, map_inj h e.2]
def dQ : Nat → List AV → AV
 | 0, l => l.headD .dead
 | n + 1, l => dQ n l.tail
def qY : Nat → List Rw → List (List D)
 | 0, l => (l.head?.map (·.xs)).getD []
 | n + 1, l => qY n l.tail
def pT : Nat → List Bx → List AV
 | 0, l => (l.head?.map (·.cells)).getD []
 | n + 1, l => pT n l.tail
def ksX : Nat → List Rw → List CK
 | 0, l => (l.head?.map (·.ks)).getD []
 | n + 1, l => ksX n l.tail
def avR (l : List Rw) : AV → D
 | .d x => x
 | .row k => .sl (ksX k l) (qY k l)
 | _ => .und
abbrev Gm (R : Type) := List AV → List Bx → List Rw → (R → Res) → Res
def assoc {α : Type} : List (Nat × α) → Nat → Option α
 | [], _ => none
 | (k, v) :: r, n => bif Nat.beq k n then some v else assoc r n
theorem p9 {α : Type} : ∀ {l : List (Nat × α)} {n : Nat} {v : α}, assoc l n = some v → (n, v) ∈ l
 | [], _, _, h => by simp [assoc] at h
 | (k, w) :: r, n, v, h => by
  rw [assoc] at h
  cases hk : Nat.beq k n
  ·rw [hk] at h; exact List.mem_cons_of_mem _ (p9 h)
  ·rw [hk] at h
   have := Nat.eq_of_beq_eq_true hk
   simp at h; subst h; subst this; exact List.mem_cons_self
section
variable {E : Env}
end
def CK.wt : CK → Nat
 | .int .i64 | .int .u64 | .fn => 8
 | .int .i32 | .int .u32 => 4
 | .int .i16 | .int .u16 => 2
 | .int _ | .bool => 1
 | .str | .ifc => 16
 | .sl _ => 24
 | .ptr => 8
def wtL : List CK → Nat
 | [] => 0
 | k :: ks => k.wt + wtL ks
def aaJ : Nat := 140737488351232
mutual
def D.ok : CK → D → Prop
 | .int k, .int k' n => k' = k ∧ (Lit.int k n).wf = true
 | .bool, .bool _ => True
 | .str, .str s => s.length ≤ aaJ
 | .sl ks, .sl ks' xs => ks' = ks ∧ xs.length * wtL ks ≤ aaJ ∧ ∀ e ∈ xs, D.okL ks e
 | _, _ => False
def D.okL : List CK → List D → Prop
 | [], [] => True
 | k :: ks, d :: ds => D.ok k d ∧ D.okL ks ds
 | _, _ => False
end
mutual
def D.acj : D → Nat
 | .str s => s.length + 1
 | .sl _ xs => l4 xs + 1
 | _ => 1
def jI : List D → Nat
 | [] => 0
 | d :: r => D.acj d + jI r
def l4 : List (List D) → Nat
 | [] => 0
 | d :: r => jI d + l4 r
end
theorem bU {k : IntKind} {d : D} (h : D.ok (.int k) d) : D.int k (aM d) = d := by cases d <;> simp only [D.ok] at h; obtain ⟨rfl, _⟩ := h; rfl
theorem gS {d : D} (h : D.ok .bool d) : D.bool (bC d) = d := by cases d <;> simp only [D.ok] at h; rfl
theorem eM {d : D} (h : D.ok .str d) : D.str (aX d) = d := by cases d <;> simp only [D.ok] at h; rfl
theorem ai5 {α : Type} {ks : List CK} {f : α → List D} {g : List D → α} (hg : ∀ e, D.okL ks e → f (g e) = e) : ∀ {xs : List (List D)}, (∀ e ∈ xs, D.okL ks e) → (xs.map g).map f = xs
 | [], _ => rfl
 | x :: xs, h => by
  simp only [List.map_cons]
  rw [hg x (h x List.mem_cons_self), ai5 hg (fun e he => h e (List.mem_cons_of_mem _ he))]
theorem kM {α : Type} {ks : List CK} {f : α → List D} {g : List D → α} (hg : ∀ e, D.okL ks e → f (g e) = e) {d : D} (h : D.ok (.sl ks) d) : D.sl ks (((dSl d).map g).map f) = d := by
 cases d <;> simp only [D.ok] at h
 obtain ⟨rfl, _, h⟩ := h
 simp only [dSl]
 rw [ai5 hg h]
theorem aS {k : CK} {ks : List CK} {e : List D} (h : D.okL (k :: ks) e) : ∃ d r, e = d :: r ∧ D.ok k d ∧ D.okL ks r := by
 cases e with
 | nil => simp [D.okL] at h
 | cons d r => exact ⟨d, r, rfl, h⟩
theorem jM {e : List D} (h : D.okL [] e) : e = [] := by cases e with | nil => rfl | cons => simp [D.okL] at h
def xW (e : List D) : Int := aM (cellAt e 0)
def aon (e : List D) : Bool := bC (cellAt e 0)
def ajo (e : List D) : Str := aX (cellAt e 0)
def aor {α : Type} (g : List D → α) (e : List D) : List α := (dSl (cellAt e 0)).map g
theorem rP {k : IntKind} (e : List D) (h : D.okL [.int k] e) : encI k (xW e) = e := by
 obtain ⟨d, r, rfl, h0, h⟩ := aS h
 obtain rfl := jM h
 show [D.int k (aM d)] = [d]
 rw [bU h0]
theorem ahB (e : List D) (h : D.okL [.str] e) : bM (ajo e) = e := by
 obtain ⟨d, r, rfl, h0, h⟩ := aS h
 obtain rfl := jM h
 show [D.str (aX d)] = [d]
 rw [eM h0]
theorem amm {α : Type} {ks : List CK} {f : α → List D} {g : List D → α} (hg : ∀ e, D.okL ks e → f (g e) = e) (e : List D) (h : D.okL [.sl ks] e) : af0 ks f (aor g e) = e := by
 obtain ⟨d, r, rfl, h0, h⟩ := aS h
 obtain rfl := jM h
 show [D.sl ks (((dSl d).map g).map f)] = [d]
 rw [kM hg h0]
theorem an0 {k : IntKind} {e : List D} (h : D.okL [.int k] e) : ∃ p, e = [D.int k p] := ⟨xW e, (rP e h).symm⟩
theorem aoG {α : Type} {ks : List CK} {f : α → List D} {g : List D → α} (hg : ∀ e, D.okL ks e → f (g e) = e) {e : List D} (h : D.okL [.sl ks] e) : ∃ p, e = [D.sl ks (List.map f p)] := ⟨aor g e, (amm hg e h).symm⟩
theorem lC {R : Type} {e : R → Out} {c : Bool} {a b : Option R} {a' b' : Res} (h1 : Le (a.map e) a') (h2 : Le (b.map e) b') : Le ((cond c a b).map e) (cond c a' b') := acF rfl (fun _ => h1) (fun _ => h2)
theorem lD {R : Type} {e : R → Out} {c c' : Bool} {a b : Option R} {a' b' : Res} (hc : c = c') (h1 : Le (a.map e) a') (h2 : Le (b.map e) b') : Le ((cond c a b).map e) (cond c' a' b') := acF hc (fun _ => h1) (fun _ => h2)
theorem lF {R : Type} {e : R → Out} {c : Bool} {a : Option R} {a' : Res} (h1 : Le (a.map e) a') : Le ((cond c a none).map e) (cond c a' none) := acF rfl (fun _ => h1) (fun _ => le_none)
theorem lG {R : Type} {e : R → Out} {c c' : Bool} {a : Option R} {a' : Res} (hc : c = c') (h1 : Le (a.map e) a') : Le ((cond c a none).map e) (cond c' a' none) := acF hc (fun _ => h1) (fun _ => le_none)
theorem eX {R : Type} {out : R → Out} (y : R) : ∃ x, out x = out y := ⟨y, rfl⟩
def fuel : Nat := 1000000000000000000
end PX
set_option linter.unusedVariables false
set_option linter.unusedSimpArgs false
namespace PX
open Go
inductive v8 : Type 1 where
 | one {R : Type} (o : R → Out)
 | two {Q R : Type} (o : Q ⊕ R → Out)
 | six {A B C D E F : Type} (o : S6 A B C D E F → Out)
def v8.anM (P : Out → Prop) : v8 → Prop
 | .one o => ∀ y, P y → ∃ x, o x = y
 | .two o => ∀ y, P y → ∃ x, o x = y
 | .six o => ∀ y, P y → ∃ x, o x = y
structure Tau where
 Γ : Fun
 t : (g : FuncId) → {R : Type} → (R → Out) → Gm R
 p : (g : FuncId) → {Q R : Type} → (Q ⊕ R → Out) → Gp Q R
 s : (g : FuncId) → {A B C D E F : Type} → (S6 A B C D E F → Out) → G6 A B C D E F
 Λ : Lam
 J : Lam
def aeY : List (Nat × v8) → Nat → Option v8
 | [], _ => none
 | (k, v) :: r, n => bif Nat.beq k n then some v else aeY r n
def alg (L : List (Nat × v8)) (τ : Tau) : kN := fun f a b r k => match aeY L f with
 | none => fF τ.Γ f a b r k
 | some (.one o) => τ.t f o a b r fun x => k (o x)
 | some (.two o) => τ.p f o a b r (fun x => k (o (.inl x))) fun x => k (o (.inr x))
 | some (.six o) => τ.s f o a b r (fun x => k (o (.inl x))) (fun x => k (o (.inr (.inl x)))) (fun x => k (o (.inr (.inr (.inl x))))) (fun x => k (o (.inr (.inr (.inr (.inl x)))))) (fun x => k (o (.inr (.inr (.inr (.inr (.inl x))))))) (fun x => k (o (.inr (.inr (.inr (.inr (.inr x)))))))
def v8.has (y : Out) : v8 → Prop
 | .one o => ∃ x, o x = y
 | .two o => ∃ x, o x = y
 | .six o => ∃ x, o x = y
def vQ (L : List (Nat × v8)) (f : FuncId) (y : Out) : Prop := match aeY L f with
 | some x => x.has y
 | none => False
section
variable {E : Env} {good : FuncId → Out → Prop}
noncomputable def xM (E : Env) (good : FuncId → Out → Prop) (f : FuncId) : Tau :=
 ⟨gM E good, fun g _ o => aen E good g o, fun g _ _ o => acN E good g o,
 fun g _ _ _ _ _ _ o => call6 E good g o,
 aak E (gM E good) (E.hl f) (E.hr f), J0 E (fF (gM E good))⟩
theorem w9 {L : List (Nat × v8)} {f : Nat} {x : v8} (h : aeY L f = some x) : x.anM (vQ L f) := by
 cases x <;> intro y hy <;> simp only [vQ, h] at hy <;> exact hy
theorem akW (L : List (Nat × v8)) (n : FuncId) : alg L (xM E (vQ L) n) = fF (gM E (vQ L)) := by
 funext f a b r k
 unfold alg
 have hb : Nat.beq f f = true := Nat.beq_refl f
 split
 ·rfl
 ·rename_i o hx
  have e := congrFun (congrFun (congrFun (congrFun (congrFun (akq (E := E) (good := vQ L) (g := f) (out := o) (w9 hx)) f) a) b) r) k
  unfold alP at e
  rw [hb] at e
  exact e
 ·rename_i o hx
  have e := congrFun (congrFun (congrFun (congrFun (congrFun (agu (E := E) (good := vQ L) (g := f) (out := o) (w9 hx)) f) a) b) r) k
  unfold ajG at e
  rw [hb] at e
  exact e
 ·rename_i o hx
  have e := congrFun (congrFun (congrFun (congrFun (congrFun (ak0 (V := E) (good := vQ L) (g := f) (out := o) (w9 hx)) f) a) b) r) k
  unfold amc at e
  rw [hb] at e
  exact e
abbrev dK := Env → kN → Lam → Lam → FuncId → Nat → List Nat → Sto → Res
noncomputable def ajf (E : Env) (K : Tau → kN) (κ : Tau) (f : FuncId) (a : List AV) (b : List Bx) (r : List Rw) : Res := aeV E (K κ) κ.Λ κ.J f a b r
theorem am4 {K : Tau → kN} {f nb p st} (hK : K (xM E good f) = fF (gM E good)) {t x : Res} (h : ahL E (K (xM E good f)) (xM E good f).Λ (xM E good f).J f nb p st = t) (h2 : Le x t) : Le x (lab E (K (xM E good f)) (xM E good f).Λ (xM E good f).J f nb p st) := by
 refine Le.trans h2 (le_of_eq ?_)
 rw [← h, hK]
 exact (ahp (gM E good) f nb p st).symm
theorem amf {K : Tau → kN} {f a b r} (hK : K (xM E good f) = fF (gM E good)) (hlib : E.lib f = none) {t x : Res} (h : ajf E K (xM E good f) f a b r = t) (h2 : Le x t) : Le x (aV E f a b r) := by
 refine ai1 (good := good) hlib (Le.trans h2 (le_of_eq ?_))
 rw [← h]
 unfold ajf
 rw [hK]
 rfl
end
end PX
set_option linter.unusedVariables false
set_option linter.unusedSimpArgs false
namespace PX
open Go
def tE (P : Program) (r : TypeId → Option (List CK)) : List Field → Nat → Option (List CK)
 | [], _ => some []
 | f :: fs, off => (r f.type).bind fun ks => if (Nat.beq f.offset off && Nat.beq (P.cellsOf f.type) ks.length) = true then (tE P r fs (off + ks.length)).map (ks ++ ·) else none
def dty (P : Program) : Nat → TypeId → Option (List CK)
 | 0, _ => none
 | n + 1, t =>
  match P.underlying t with
  | some .bool => if Nat.beq (P.cellsOf t) 1 then some [.bool] else none
  | some (.int k) => if Nat.beq (P.cellsOf t) 1 then some [.int k] else none
  | some .string => if Nat.beq (P.cellsOf t) 1 then some [.str] else none
  | some (.slice e) => (dty P n e).bind fun ks => if (Nat.beq (P.cellsOf e) ks.length && Nat.blt 0 ks.length && Nat.beq (P.cellsOf t) 1 && Nat.ble (wtL ks) (P.bytesOf e)) = true then some [.sl ks] else none
  | some (.struct fs) => (tE P (dty P n) fs.toList 0).bind fun ks => if Nat.beq (P.cellsOf t) ks.length = true then some ks else none
  | _ => none
structure aap {H : Type} (u : DataW H → Nat) (ua : List (DataW H) → Nat) : Prop where
 lit : ∀ l, 1 ≤ u (.lit l)
 str : ∀ b, b.length + 1 ≤ u (.lit (.string b))
 nil : 1 ≤ u .nil
 sl : ∀ e s, ua e + 1 ≤ u (.slice e s)
 agg : ∀ p, ua p ≤ u (.agg p)
 nilA : ua [] = 0
 cons : ∀ d r, ua (d :: r) = u d + ua r
inductive RDs (F : Nat → Prop) (w : World) : List CK → List D → List Value → Prop
 | nil : RDs F w [] [] []
 | cons {k d v ks ds vs} (h : DR F w k d v) (ho : D.ok k d) (hs : RDs F w ks ds vs) : RDs F w (k :: ks) (d :: ds) (v :: vs)
theorem RDs.append {F w ks ds vs ks' ds' vs'} (h : RDs F w ks ds vs) (h' : RDs F w ks' ds' vs') : RDs F w (ks ++ ks') (ds ++ ds') (vs ++ vs') := by
 induction h with
 | nil => exact h'
 | cons h ho hs ih => exact .cons h ho ih
theorem RDs.afo {F w ks ds vs} (h : RDs F w ks ds vs) : ds.length = ks.length ∧ vs.length = ks.length := by
 induction h with
 | nil => simp
 | cons h ho hs ih => simp [ih]
theorem RDs.ok {F w ks ds vs} (h : RDs F w ks ds vs) : D.okL ks ds := by
 induction h with
 | nil => simp [D.okL]
 | cons h ho hs ih => exact ⟨ho, ih⟩
theorem RDs.get {F : Nat → Prop} {w : World} {ks : List CK} {ds : List D} {vs : List Value} (h : RDs F w ks ds vs) : ∀ {i : Nat} {k : CK} {d : D} {v : Value}, ks[i]? = some k → ds[i]? = some d → vs[i]? = some v → DR F w k d v := by
 induction h with
 | nil => intro i k d v h1; simp at h1
 | cons h ho hs ih =>
  intro i k d v h1 h2 h3
  cases i with
  | zero => simp at h1 h2 h3; subst h1; subst h2; subst h3; exact h
  | succ i => simp at h1 h2 h3; exact ih h1 h2 h3
theorem RDs.uL {G : Gh} {w ks ds vs} (h : RDs G.F w ks ds vs) : AVRs G w (ds.map AV.d) vs := by
 induction h with
 | nil => exact .nil
 | cons h ho hs ih => exact .cons _ _ _ _ (.d h) ih
theorem abQ : ∀ (a b : List D), jI (a ++ b) = jI a + jI b
 | [], b => by simp [jI]
 | x :: a, b => by simp only [List.cons_append, jI, abQ a b]; omega
section
variable {P : Program} {H : Type} {enc : TypeId × Value → H} {w : World} {base : Nat} {held : Bool} {u : DataW H → Nat} {ua : List (DataW H) → Nat}
theorem aee {r : TypeId → Option (List CK)} (hr : ∀ t ks, r t = some ks → ks.all CK.isData = true) : ∀ {fs : List Field} {off : Nat} {ks : List CK}, tE P r fs off = some ks → ks.all CK.isData = true
 | [], _, ks, h => by simp [tE] at h; subst h; rfl
 | f :: fs, off, ks, h => by
  rw [tE] at h
  obtain ⟨k1, h1, h2⟩ := Option.bind_eq_some_iff.1 h
  split at h2
  ·obtain ⟨k2, h3, rfl⟩ := Option.map_eq_some_iff.1 h2
   rw [List.all_append, hr _ _ h1, aee hr h3]; rfl
  ·cases h2
theorem ad3 : ∀ {n : Nat} {t : TypeId} {ks : List CK}, dty P n t = some ks → ks.all CK.isData = true
 | 0, t, ks, h => by simp [dty] at h
 | n + 1, t, ks, h => by
  rw [dty] at h
  split at h
  ·split at h <;> cases h; rfl
  ·split at h <;> cases h; rfl
  ·split at h <;> cases h; rfl
  ·obtain ⟨k1, h1, h2⟩ := Option.bind_eq_some_iff.1 h
   split at h2
   ·cases h2; have := ad3 h1; simp [CK.isData, s9, this]
   ·cases h2
  ·obtain ⟨k1, h1, h2⟩ := Option.bind_eq_some_iff.1 h
   split at h2
   ·cases h2; exact aee (fun t ks h => ad3 h) h1
   ·cases h2
  ·cases h
theorem adi (B : aap u ua) {r : TypeId → Option (List CK)} {tr : TypeId → List Value → Option (DataW H × List MemPlace)} {cs : List Value} {F : Nat → Prop}
  (hr : ∀ t ks, r t = some ks → ∀ cs x, tr t cs = some x → (∀ y ∈ x.1.weights P t, y ≤ reachBytes) → ∃ ds, RDs F w ks ds cs ∧ jI ds ≤ u x.1) :
  ∀ {fs : List Field} {off : Nat} {ks : List CK} (xs : List (DataW H × List MemPlace)), tE P r fs off = some ks → cs.length = off + ks.length → xs.length = fs.length → (∀ y ∈ DataW.weightsEach P (fs.map (·.type)) (xs.map (·.1)), y ≤ reachBytes) →
   (∀ (i : Nat) (f : Field), fs[i]? = some f → tr f.type ((cs.drop f.offset).take (P.cellsOf f.type)) = xs[i]?) → ∃ ds, RDs F w ks ds (cs.drop off) ∧ jI ds ≤ ua (xs.map (·.1))
 | [], off, ks, xs, h, hl, hxl, hwt, hx => by
  simp [tE] at h; subst h
  rw [List.drop_eq_nil_of_le (by simpa using Nat.le_of_eq hl)]
  exact ⟨[], .nil, by simp [jI]⟩
 | f :: fs, off, ks, xs, h, hl, hxl, hwt, hx => by
  rw [tE] at h
  obtain ⟨k1, h1, h2⟩ := Option.bind_eq_some_iff.1 h
  split at h2
  ·rename_i hc
   simp only [Bool.and_eq_true] at hc
   have hc1 := Nat.eq_of_beq_eq_true hc.1
   have hc2 := Nat.eq_of_beq_eq_true hc.2
   obtain ⟨k2, h3, rfl⟩ := Option.map_eq_some_iff.1 h2
   cases xs with
   | nil => simp at hxl
   | cons x xs =>
    have e0 := hx 0 f rfl
    simp only [List.getElem?_cons_zero] at e0
    simp only [List.map_cons, DataW.weightsEach, List.mem_append] at hwt
    obtain ⟨ds1, r1, b1⟩ := hr _ _ h1 _ _ e0 (fun y hy => hwt y (.inl hy))
    rw [hc1, hc2] at r1
    obtain ⟨ds2, r2, b2⟩ := adi B hr xs h3 (by rw [hl, List.length_append]; omega) (by simpa using hxl) (fun y hy => hwt y (.inr hy)) (fun i g hg => by simpa using hx (i + 1) g (by simpa using hg))
    refine ⟨ds1 ++ ds2, ?_, ?_⟩
    ·have := r1.append r2
     have e : (cs.drop off).take k1.length ++ cs.drop (off + k1.length) = cs.drop off := by rw [← List.drop_drop]; exact List.take_append_drop _ _
     rw [e] at this; exact this
    ·rw [abQ, List.map_cons, B.cons]; omega
  ·cases h2
theorem abI (B : aap u ua) : ∀ (n : Nat) {t : TypeId} {ks : List CK}, dty P n t = some ks → ∀ (m : Nat) (cs : List Value) (x : DataW H × List MemPlace),
  DataW.trod enc P w base (fun _ => true) held m t cs = some x → (∀ y ∈ x.1.weights P t, y ≤ reachBytes) → ∃ ds, RDs (fun k => k < w.heap.size) w ks ds cs ∧ jI ds ≤ u x.1
 | 0, t, ks, h => by simp [dty] at h
 | n + 1, t, ks, h => by
  intro m cs x hx hwt
  rw [dty] at h
  split at h
  ·rename_i ht
   split at h <;> cases h
   obtain ⟨b, rfl, rfl⟩ := DataW.trod_bool ht hx
   exact ⟨[.bool b], .cons (.bool b) trivial .nil, by simpa [jI, D.acj] using B.lit _⟩
  ·rename_i k ht
   split at h <;> cases h
   obtain ⟨b, rfl, rfl, hw⟩ := DataW.trod_int ht hx
   exact ⟨[.int k b], .cons (.int k b) ⟨rfl, hw⟩ .nil, by simpa [jI, D.acj] using B.lit _⟩
  ·rename_i ht
   split at h <;> cases h
   obtain ⟨s, rfl, rfl, hs⟩ := DataW.trod_string ht hx
   refine ⟨[.str s.data.toList], .cons (.str _) (by simpa [D.ok, aaJ, DataW.weights, reachBytes] using hwt) .nil, by simpa [jI, D.acj] using B.str s.data.toList⟩
  ·rename_i e ht
   obtain ⟨k1, h1, h2⟩ := Option.bind_eq_some_iff.1 h
   split at h2
   ·rename_i hc
    cases h2
    simp only [Bool.and_eq_true] at hc
    have hc1 := Nat.eq_of_beq_eq_true hc.1.1.1
    have hwb := Nat.le_of_ble_eq_true hc.2
    have hc2 : 0 < k1.length := by have := hc.1.1.2; simp [Nat.blt] at this; omega
    have hk := ad3 h1
    rcases DataW.trod_slice ht hx with ⟨rfl, rfl⟩ | ⟨a, len, cap, elems, rest, m', rfl, rfl, rfl, hb, hlc, hcm, hlen, hel, _, _⟩
    ·exact ⟨[.sl k1 []], .cons (.sl k1 [] none 0 (fun _ _ => undef) (by simp) (by simp) (by simp) hk (by simp) (by simp)) ⟨rfl, by simp, by simp⟩ .nil, by simpa [jI, l4, D.acj] using B.nil⟩
    ·simp only [DataW.weights, ht, List.mem_cons, List.mem_append] at hwt
     have hw1 := hwt _ (.inl rfl)
     have hlen2 : len * wtL k1 ≤ aaJ := by
      have e1 : len * wtL k1 ≤ (List.length (elems.map (·.1)) + List.length (rest.map (·.1))) * P.bytesOf e := Nat.mul_le_mul (by simp [hlen]) hwb
      have e2 : reachBytes = aaJ := rfl
      omega
     have hall : ∀ (l : List (DataW H × List MemPlace)) (y : DataW H × List MemPlace), y ∈ l → ∀ z ∈ y.1.weights P e, z ∈ DataW.weightsAll P e (l.map (·.1)) := by
      intro l
      induction l with
      | nil => intro y hy; simp at hy
      | cons a l ih =>
       intro y hy z hz
       simp only [List.map_cons, DataW.weightsAll, List.mem_append]
       rcases List.mem_cons.1 hy with rfl | hy
       ·exact .inl hz
       ·exact .inr (ih y hy z hz)
     have each : ∀ i, ∃ p : List D × List Value, i < len → w.cells? base (a.add (i * k1.length)) k1.length = some p.2 ∧ RDs (fun k => k < w.heap.size) w k1 p.1 p.2 ∧ ∃ y, elems[i]? = some y ∧ jI p.1 ≤ u y.1 := by
      intro i
      by_cases hi : i < len
      ·have h3 := hel i hi
       rw [List.getElem?_eq_getElem (by omega)] at h3
       obtain ⟨cs', h4, h5⟩ := Option.bind_eq_some_iff.1 h3
       obtain ⟨ds, h6, h7⟩ := abI B n h1 _ _ _ h5 (fun z hz => hwt z (.inr (.inl (hall elems _ (List.getElem_mem _) z hz))))
       rw [hc1] at h4
       exact ⟨(ds, cs'), fun _ => ⟨h4, h6, _, List.getElem?_eq_getElem (by omega), h7⟩⟩
      ·exact ⟨([], []), fun h => absurd h hi⟩
     obtain ⟨p, hp⟩ := Classical.skolem.1 each
     have hxs : ∀ j e', ((List.range len).map fun i => (p i).1)[j]? = some e' → j < len ∧ e' = (p j).1 := by
      intro j e' he
      rw [List.getElem?_map] at he
      obtain ⟨i, hi, rfl⟩ := Option.map_eq_some_iff.1 he
      have := List.getElem?_eq_some_iff.1 hi
      obtain ⟨h3, h4⟩ := this
      simp at h3 h4
      subst h4
      exact ⟨h3, rfl⟩
     have hcl : ((List.range len).map fun i => (p i).1).length = len := by simp
     refine ⟨[.sl k1 ((List.range len).map fun i => (p i).1)], .cons ?_ ⟨rfl, by rw [hcl]; exact hlen2, fun e' he => ?_⟩ .nil, ?_⟩
     ·have hd := DR.sl (F := fun k => k < w.heap.size) (w := w) k1 ((List.range len).map fun i => (p i).1) (some a) cap (fun j i => ((p j).2).getD i undef) (by rw [hcl]; exact hlc) (fun e' he => by
        obtain ⟨j, hj⟩ := List.getElem?_of_mem he
        obtain ⟨hj1, rfl⟩ := hxs _ _ hj
        exact (hp j hj1).2.1.afo.1) (fun hne => ⟨a, rfl, by
        have h0 : 0 < len := by
         cases len with
         | zero => simp at hne
         | succ l => omega
        have := World.cells?_block (hp 0 h0).1 hc2
        have hbl : (a.add (0 * k1.length)).block = a.block := by unfold Addr.add; split <;> rfl
        rw [hbl] at this
        exact this⟩) hk (fun ad j e' i d k had hj hi hk' => ?_) (fun j e' i d k hj hi hk' => ?_)
      ·rw [hcl] at hd; exact hd
      ·cases had
       obtain ⟨hj1, rfl⟩ := hxs _ _ hj
       obtain ⟨hc3, hr, _⟩ := hp j hj1
       have hi' : i < k1.length := (List.getElem?_eq_some_iff.1 hk').1
       have hcell := (World.cells?_some hc3).2.2 i hi'
       rw [Addr.add_add] at hcell
       rw [hcell, List.getD_eq_getElem?_getD, List.getElem?_eq_getElem (by rw [hr.afo.2]; exact hi')]
       rfl
      ·obtain ⟨hj1, rfl⟩ := hxs _ _ hj
       obtain ⟨hc3, hr, _⟩ := hp j hj1
       have hi' : i < k1.length := (List.getElem?_eq_some_iff.1 hk').1
       refine hr.get hk' hi ?_
       rw [List.getD_eq_getElem?_getD, List.getElem?_eq_getElem (by rw [hr.afo.2]; exact hi')]
       rfl
     ·obtain ⟨j, hj⟩ := List.getElem?_of_mem he
      obtain ⟨hj1, rfl⟩ := hxs _ _ hj
      exact (hp j hj1).2.1.ok
     ·have hsum : ∀ (l : List Nat) (el : List (DataW H × List MemPlace)), l.length = el.length → (∀ (j i : Nat), l[j]? = some i → ∃ y : DataW H × List MemPlace, el[j]? = some y ∧ jI (p i).1 ≤ u y.1) → l4 (l.map fun i => (p i).1) ≤ ua (el.map (·.1)) := by
       intro l
       induction l with
       | nil => intro el hl _; simp [l4]
       | cons i l ih =>
        intro el hl hj
        cases el with
        | nil => simp at hl
        | cons y el =>
         obtain ⟨y', hy', hb'⟩ := hj 0 i rfl
         simp at hy'; subst hy'
         have := ih el (by simpa using hl) (fun j i' h => by simpa using hj (j + 1) i' (by simpa using h))
         simp only [List.map_cons, l4, B.cons]; omega
      have hb2 := hsum (List.range len) elems (by simp [hlen]) (fun j i hj => by
       have := List.getElem?_eq_some_iff.1 hj
       obtain ⟨h3, h4⟩ := this
       simp at h3 h4; subst h4
       obtain ⟨_, _, y, hy, hb3⟩ := hp j h3
       exact ⟨y, hy, hb3⟩)
      have hb4 := B.sl (elems.map (·.1)) (rest.map (·.1))
      simp only [jI, D.acj]; omega
   ·cases h2
  ·rename_i fs ht
   obtain ⟨k1, h1, h2⟩ := Option.bind_eq_some_iff.1 h
   split at h2
   ·rename_i hc
    cases h2
    have hc1 := Nat.eq_of_beq_eq_true hc
    obtain ⟨xs, m', rfl, rfl, hl, hxl, hx'⟩ := DataW.trod_struct ht hx
    obtain ⟨ds, hr, hb⟩ := adi (cs := cs) B (tr := DataW.trod enc P w base (fun _ => true) held m') (fun t ks h cs x hx hw => abI B n h _ cs x hx hw) xs h1 (by omega) (by simpa using hxl) (by simpa [DataW.weights, ht] using hwt)
     (fun i f hf => hx' i f (by simpa using hf))
    simp only [List.drop_zero] at hr
    exact ⟨ds, hr, Nat.le_trans hb (B.agg _)⟩
   ·cases h2
  ·cases h
end
end PX
set_option linter.unusedVariables false
set_option linter.unusedSimpArgs false
namespace PX
open Go Go.RowKit Go.WideShapes Go.ChangeShapes
section
variable {P : Program} {H : Type} {enc : TypeId × Value → H} {u : DataW H → Nat} {ua : List (DataW H) → Nat}
theorem ae3 {r : TypeId → Option (List CK)} : ∀ {fs : List Field} {off : Nat} {ks : List CK}, tE P r fs off = some ks →
  (∀ f ∈ fs, ∃ k, r f.type = some k) ∧ ks.length = (fs.map fun f => P.cellsOf f.type).sum ∧ ∀ (j : Nat) f, fs[j]? = some f → f.offset = off + ((fs.take j).map fun f => P.cellsOf f.type).sum
 | [], _, ks, h => by simp [tE] at h; subst h; simp
 | f :: fs, off, ks, h => by
  rw [tE] at h
  obtain ⟨k1, h1, h2⟩ := Option.bind_eq_some_iff.1 h
  split at h2
  ·rename_i hc
   simp only [Bool.and_eq_true] at hc
   have hc1 := Nat.eq_of_beq_eq_true hc.1
   have hc2 := Nat.eq_of_beq_eq_true hc.2
   obtain ⟨k2, h3, rfl⟩ := Option.map_eq_some_iff.1 h2
   obtain ⟨a, b, c⟩ := ae3 h3
   refine ⟨fun g hg => ?_, ?_, fun j g hg => ?_⟩
   ·rcases List.mem_cons.1 hg with rfl | hg
    ·exact ⟨_, h1⟩
    ·exact a g hg
   ·rw [List.length_append, b, List.map_cons, List.sum_cons, hc2]
   ·cases j with
    | zero => simp at hg; subst hg; simp [hc1]
    | succ j => rw [c j g (by simpa using hg), List.take_succ_cons, List.map_cons, List.sum_cons, hc2]; omega
  ·cases h2
def DT (P : Program) (t : TypeId) : Prop := ∃ n ks, dty P n t = some ks
theorem uI {n : Nat} {t : TypeId} {ks : List CK} (h : dty P n t = some ks) : ∃ m, n = m + 1 := by
 cases n with
 | zero => simp [dty] at h
 | succ m => exact ⟨m, rfl⟩
theorem amS : Kids P (DT P) := by
 refine ⟨?_, ?_, ?_, ?_, ?_⟩
 ·rintro t e ⟨n, ks, h⟩ ht
  obtain ⟨m, rfl⟩ := uI h
  rw [dty, ht] at h; cases h
 ·rintro t e ⟨n, ks, h⟩ ht
  obtain ⟨m, rfl⟩ := uI h
  rw [dty, ht] at h
  obtain ⟨k1, h1, h2⟩ := Option.bind_eq_some_iff.1 h
  exact ⟨m, k1, h1⟩
 ·rintro t e k ⟨n, ks, h⟩ ht
  obtain ⟨m, rfl⟩ := uI h
  rw [dty, ht] at h; cases h
 ·rintro t fs ⟨n, ks, h⟩ ht
  obtain ⟨m, rfl⟩ := uI h
  rw [dty, ht] at h
  obtain ⟨k1, h1, h2⟩ := Option.bind_eq_some_iff.1 h
  split at h2
  ·rename_i hc
   obtain ⟨a, b, c⟩ := ae3 h1
   exact ⟨fun f hf => by obtain ⟨k, hk⟩ := a f hf; exact ⟨m, k, hk⟩, by rw [Nat.eq_of_beq_eq_true hc, b], fun j f hf => by rw [c j f hf, Nat.zero_add]⟩
  ·cases h2
 ·rintro t k e ⟨n, ks, h⟩ ht
  obtain ⟨m, rfl⟩ := uI h
  rw [dty, ht] at h; cases h
theorem al5 {t e : TypeId} (hT : DT P t) (ht : P.underlying t = some (.slice e)) : 0 < P.cellsOf e := by
 obtain ⟨n, ks, h⟩ := hT
 obtain ⟨m, rfl⟩ := uI h
 rw [dty, ht] at h
 obtain ⟨k1, h1, h2⟩ := Option.bind_eq_some_iff.1 h
 split at h2
 ·rename_i hc
  simp only [Bool.and_eq_true] at hc
  have := hc.1.1.2
  simp [Nat.blt] at this
  rw [Nat.eq_of_beq_eq_true hc.1.1.1]; omega
 ·cases h2
theorem abq {w w' : World} {sp' : Nat → Bool} : ∀ {ts : List TypeId} {vs : List Value} {ds : List (DataW H)} {ps : List MemPlace}, (∀ t ∈ ts, DT P t) → DataW.TrodAll enc P w 0 (fun _ => true) true ts vs ds ps →
  (∀ p ∈ ps, w.sameAt w' p) → (∀ p ∈ ps, sp' p.block = true) → DataW.TrodAll enc P w' 0 sp' true ts vs ds ps
 | [], [], [], ps, _, h, _, _ => by simpa [DataW.TrodAll] using h
 | t :: ts, v :: vs, d :: ds, ps, hT, h, h1, h2 => by
  obtain ⟨p, q, ⟨fuel, ht⟩, hs, rfl⟩ := h
  refine ⟨p, q, ⟨fuel, ?_⟩, abq (fun t ht => hT t (List.mem_cons_of_mem _ ht)) hs (fun x hx => h1 x (by simp [hx])) (fun x hx => h2 x (by simp [hx])), rfl⟩
  exact DataW.trod_stays amS (fun hT ht => al5 hT ht) (by simp) (hT t List.mem_cons_self) ht (fun x hx => h1 x (by simp [hx])) (fun x hx => h2 x (by simp [hx]))
 | [], _ :: _, _, _, _, h, _, _ => by simp [DataW.TrodAll] at h
 | [], [], _ :: _, _, _, h, _, _ => by simp [DataW.TrodAll] at h
 | _ :: _, [], _, _, _, h, _, _ => by simp [DataW.TrodAll] at h
 | _ :: _, _ :: _, [], _, _, h, _, _ => by simp [DataW.TrodAll] at h
def k9 (P : Program) (t : TypeId) : Bool := match P.underlying t with | some (.struct _) => true | _ => false
def acC (b : Bool) (ds : List D) : AV := if b then .agg (ds.map .d) else match ds with | [d] => .d d | _ => .dead
def vT : List Bool → List (List D) → List AV
 | b :: bs, ds :: dss => acC b ds :: vT bs dss
 | _, _ => []
def tP : List (List CK) → List (List D) → Prop
 | ks :: kss, ds :: dss => D.okL ks ds ∧ tP kss dss
 | [], [] => True
 | _, _ => False
def rQ : Nat := 12
theorem adl {ks : List CK} {kss : List (List CK)} {dss : List (List D)} (h : tP (ks :: kss) dss) : ∃ e r, dss = e :: r ∧ D.okL ks e ∧ tP kss r := by
 cases dss with
 | nil => simp [tP] at h
 | cons e r => exact ⟨e, r, rfl, h⟩
theorem aj0 {dss : List (List D)} (h : tP [] dss) : dss = [] := by cases dss with | nil => rfl | cons => simp [tP] at h
theorem alF {w : World} {G : Gh} (hG : G.F = fun k => k < w.heap.size) (B : aap u ua) {r : Reach} {b0 : Nat} {t : TypeId} {v : Value} {d : DataW H} {ps : List MemPlace} {ks : List CK} (hd : dty P rQ t = some ks)
  (hv : Value.okWide P w r b0 t v) (h : DataW.Trod enc P w 0 (fun _ => true) true t v d ps) (hwt : ∀ y ∈ d.weights P t, y ≤ reachBytes) : ∃ ds, AVR G w (acC (k9 P t) ds) v ∧ D.okL ks ds ∧ jI ds ≤ u d := by
 obtain ⟨fuel, hf⟩ := h
 obtain ⟨ds, hr, hb⟩ := abI B rQ hd fuel _ _ hf hwt
 refine ⟨ds, ?_, hr.ok, hb⟩
 rw [← hG] at hr
 unfold rQ at hd
 rw [dty] at hd
 have one : ∀ (hc : v.cells.toList = [v]), k9 P t = false → AVR G w (acC (k9 P t) ds) v := by
  intro hc hs
  rw [hc] at hr
  rw [hs]
  cases hr with
  | cons h ho hs => cases hs; exact .d h
 split at hd
 ·rename_i ht
  obtain ⟨b, rfl⟩ := okWide_bool ht hv
  exact one rfl (by simp [k9, ht])
 ·rename_i ht
  obtain ⟨b, rfl⟩ := okWide_int ht hv
  exact one rfl (by simp [k9, ht])
 ·rename_i ht
  obtain ⟨b, rfl⟩ := okWide_string ht hv
  exact one rfl (by simp [k9, ht])
 ·rename_i ht
  obtain ⟨a, l, c, rfl⟩ := okWide_slice ht hv
  exact one rfl (by simp [k9, ht])
 ·rename_i ht
  obtain ⟨cs, rfl, _⟩ := okWide_struct ht hv
  have hs : k9 P t = true := by simp [k9, ht]
  rw [hs]
  have hr' : RDs G.F w ks ds cs.toList := hr
  have := AVR.agg _ _ hr'.uL
  simpa [acC] using this
 ·cases hd
theorem af2 {w : World} {G : Gh} (hG : G.F = fun k => k < w.heap.size) (B : aap u ua) {r : Reach} {b0 : Nat} : ∀ {ts : List TypeId} {vs : List Value} {ds : List (DataW H)} {ps : List MemPlace} {kss : List (List CK)},
  ts.map (dty P rQ) = kss.map some → (∀ (j : Nat) t v, ts[j]? = some t → vs[j]? = some v → Value.okWide P w r b0 t v) → DataW.TrodAll enc P w 0 (fun _ => true) true ts vs ds ps → (∀ y ∈ DataW.weightsEach P ts ds, y ≤ reachBytes) →
  ∃ dss, AVRs G w (vT (ts.map (k9 P)) dss) vs ∧ tP kss dss ∧ l4 dss ≤ ua ds
 | [], [], [], ps, kss, hk, hv, h, hwt => by
  cases kss with
  | nil => exact ⟨[], .nil, trivial, by simp [l4]⟩
  | cons => simp at hk
 | t :: ts, v :: vs, d :: ds, ps, kss, hk, hv, h, hwt => by
  simp only [DataW.weightsEach, List.mem_append] at hwt
  cases kss with
  | nil => simp at hk
  | cons ks kss =>
   simp only [List.map_cons, List.cons.injEq] at hk
   obtain ⟨p, q, ht, hs, rfl⟩ := h
   obtain ⟨d1, a1, b1, c1⟩ := alF hG B hk.1 (hv 0 t v rfl rfl) ht (fun y hy => hwt y (.inl hy))
   obtain ⟨dss, a2, b2, c2⟩ := af2 hG B hk.2 (fun j t v h1 h2 => hv (j + 1) t v (by simpa using h1) (by simpa using h2)) hs (fun y hy => hwt y (.inr hy))
   exact ⟨d1 :: dss, .cons _ _ _ _ a1 a2, ⟨b1, b2⟩, by simp only [l4, B.cons]; omega⟩
 | [], _ :: _, _, _, _, _, _, h, _ => by simp [DataW.TrodAll] at h
 | [], [], _ :: _, _, _, _, _, h, _ => by simp [DataW.TrodAll] at h
 | _ :: _, [], _, _, _, _, _, h, _ => by simp [DataW.TrodAll] at h
 | _ :: _, _ :: _, [], _, _, _, _, h, _ => by simp [DataW.TrodAll] at h
theorem ado : ∀ (bs : List Bool) (dss : List (List D)), AV.refsL (vT bs dss) = []
 | [], _ => by simp [vT, AV.refsL]
 | _ :: _, [] => by simp [vT, AV.refsL]
 | b :: bs, ds :: dss => by
  simp only [vT, AV.refsL, ado bs dss, List.append_nil]
  cases b
  ·simp only [acC, Bool.false_eq_true, if_false]; split <;> simp [AV.refs]
  ·simp only [acC, if_true, AV.refs]
   induction ds with
   | nil => simp [AV.refsL]
   | cons d ds ih => simp [AV.refsL, AV.refs, ih]
def gh0 (w : World) : Gh := ⟨fun k => k < w.heap.size, fun _ => 0, fun _ => .slice none 0 0, fun _ => 0, fun _ => 0⟩
theorem mN (l : Loc) : inSto [] [] l = .none := by simp [inSto, jZ, bO, Sto.nil]
theorem apx {w : World} {args : List AV} {vs : List Value} (h : AVRs (gh0 w) w args vs) (hr : AV.refsL args = []) : Ent w (gh0 w) args [] [] vs := by
 refine ⟨?_, h, by simp [hr]⟩
 have hb : ∀ l k, blk (gh0 w) (inSto [] []) l ≠ some k := by
  intro l k
  cases l <;> simp [blk, mN]
 refine ⟨⟨rfl, rfl, rfl, Nat.le_refl _, fun _ _ _ => rfl, fun _ h => h, fun _ h => h, fun _ h => .inl h⟩, rfl, rfl, ?_, ?_, ?_, ?_, ?_, ?_, ?_, ?_, ?_, ?_⟩
 ·intro i v h; rw [mN] at h; cases h
 ·intro b t n h; rw [mN] at h; cases h
 ·intro b o v h; rw [mN] at h; cases h
 ·intro r ks e by_ xs fz h; rw [mN] at h; cases h
 ·intro i s p h; rw [mN] at h; cases h
 ·intro l v h; rw [mN] at h; cases h
 ·intro l l' k h; exact absurd h (hb l k)
 ·intro l k h; exact absurd h (hb l k)
 ·intro r; rfl
 ·intro k t n h; rw [mN] at h; cases h
def amw : DataW Unit → List Value
 | .lit (.int k n) => [.int k n]
 | .lit (.bool b) => [.bool b]
 | .agg ps => flatDs ps
 | _ => []
where
 flatDs : List (DataW Unit) → List Value
  | [] => []
  | d :: r => amw d ++ flatDs r
def aoK (g : Nat) (d : DataW Unit) (h : Array Obj) : Array Obj := h.modify g fun
 | .cells _ t fr => .cells ⟨amw d⟩ t fr
 | o => o
def akt (P : Program) : List (String × DataW Unit) → Array Obj → Array Obj
 | [], h => h
 | x :: r, h => akt P r (match P.globalNamed x.1 with | some g => aoK g x.2 h | none => h)
def aci (P : Program) (laid : List (String × DataW Unit)) (os : Os) : World :=
 { World.holding P os ⟨#[], #[], []⟩ with heap := akt P laid (World.holding P os ⟨#[], #[], []⟩).heap }
theorem alx {f : Func} {s : ChangeSpec} {apart fresh handsOn again : Bool} {W W' : World} {args : Array Value} {v : Value} {ds gs : List (DataW H)} {before pa pv : List MemPlace}
  (hW : DataW.Whole enc P f.params.toList s.vars apart W args.toList ds gs before)
  (hres : ∀ (b : Nat) (sp : Nat → Bool) (hd : Bool), DataW.TrodAll enc P W' b sp hd f.resultTypes.toList (v.resultList f.resultTypes.size) (s.fn H (ds ++ gs)).results [])
  (hargs : ∀ sp : Nat → Bool, (∀ p ∈ before, sp p.block = true) → DataW.TrodAll enc P W' 0 sp true f.params.toList args.toList (s.fn H (ds ++ gs)).args pa)
  (hvars : ∀ sp : Nat → Bool, (∀ p ∈ before, sp p.block = true) → DataW.TrodVars enc P W' sp s.vars (s.fn H (ds ++ gs)).vars pv)
  (hps : before = pa ++ pv) (hk : W.keptBut W' (· ∈ before)) (hfz : ∀ b off, b < W.heap.size → W'.frozen? ⟨b, off, none⟩ = W.frozen? ⟨b, off, none⟩)
  (hok : ∀ (j : Nat) (t : TypeId) (r : Value), f.resultTypes[j]? = some t → (v.resultList f.resultTypes.size)[j]? = some r → Value.okWide P W' .any 0 t r) :
  s.post enc P f apart fresh handsOn again W args v W' := by
 have hlt := hW.lt
 have hold : ∀ p ∈ before, (fun b => decide (b < W.heap.size)) p.block = true := fun p hp => by simpa using hlt p hp
 refine ⟨ds, gs, before, [], pa, pv, hW, hres _ _ _, hargs _ hold, hvars _ hold, World.keptBut_mono (fun p hp => ⟨hp, ?_⟩) hk, fun _ => ?_⟩
 ·rw [hps, List.mem_append] at hp
  exact Or.inr hp
 ·obtain ⟨_, _, _, _, _, hz, hn⟩ := hW
  refine ⟨hok, _, _, ([] ++ pa) ++ pv, ⟨[] ++ pa, pv, trodAll_append (hargs _ (fun _ _ => rfl)) (hres _ _ _), hvars _ (fun _ _ => rfl), rfl, ?_, ?_⟩, ?_⟩
  ·intro b off hp
   have hp' : MemPlace.cell b off ∈ before := by rw [hps]; simpa using hp
   rw [hfz b off (hlt _ hp')]
   exact hz b off hp'
  ·intro ha
   have := hn ha
   rw [hps] at this
   simpa using this
  ·intro p hp _
   rw [hps]
   simpa using hp
theorem aiH {W W' : World} {may : MemPlace → Prop} (h1 : W'.os = W.os) (h2 : W'.output = W.output) (h3 : ∀ k, k < W.heap.size → W'.heap[k]? = W.heap[k]?) : W.keptBut W' may := by
 refine ⟨h1, h2, fun i hi => ?_⟩
 rw [h3 i hi]
 cases W.heap[i]? with
 | none => rfl
 | some o => cases o <;> first | exact ⟨rfl, rfl, rfl, fun _ _ => rfl⟩ | exact Or.inr ⟨rfl, rfl⟩ | rfl
theorem ahl {E : Env} (EO : dE P E) (LO : xV P E) (B : aap u ua) {f : FuncId} {fn : Func} {s : ChangeSpec} {apart fresh handsOn again : Bool} {r : Reach} {kss : List (List CK)} {tb : TypeId}
  (W : World) (b0 : Nat) (args : Array Value) (ds gs : List (DataW H)) (before : List MemPlace)
  (hval : ∀ (j : Nat) t v, fn.params[j]? = some t → args[j]? = some v → Value.okWide P W r b0 t v)
  (hW : DataW.Whole enc P fn.params.toList s.vars apart W args.toList ds gs before)
  (hwt : (DataW.weightsEach P (fn.params.toList ++ s.plain.varTypes P) (ds ++ gs)).all (· ≤ reachBytes) = true)
  (hk : fn.params.toList.map (dty P rQ) = kss.map some) (hres : fn.resultTypes = #[tb]) (htb : P.underlying tb = some .bool) (hvars : s.vars = [])
  (hspec : ∀ ds : List (DataW H), ds.length = fn.params.size → s.fn H ds = { results := [.lit (.bool true)], args := ds })
  (law : ∀ dss, tP kss dss → l4 dss ≤ ua (ds ++ gs) → aV E f (vT (fn.params.toList.map (k9 P)) dss) [] [] = some (.ret [.d (.bool true)] [] [])) :
  Calls P f args W fun e W' => ∃ v, e = .returned v ∧ s.post enc P fn apart fresh handsOn again W args v W' := by
 have hW' := hW
 obtain ⟨p, q, hA, hV, rfl, hfz, hnd⟩ := hW
 rw [hvars] at hV
 cases gs with
 | cons g gs => simp [DataW.TrodVars] at hV
 | nil =>
  have hq : q = [] := by simpa [DataW.TrodVars] using hV
  subst hq
  obtain ⟨dss, h1, h2, h3⟩ := af2 (G := gh0 W) (w := W) rfl B hk (fun j t v hj hv => hval j t v (by simpa using hj) (by simpa using hv)) hA (fun y hy => by
   have hlen0 := (trodAll_length hA).2
   have := List.all_eq_true.1 hwt y (by
    rw [List.append_nil]
    have hsub : ∀ (ts ts' : List TypeId) (ds : List (DataW H)), ds.length = ts.length → DataW.weightsEach P (ts ++ ts') ds = DataW.weightsEach P ts ds := by
     intro ts
     induction ts with
     | nil => intro ts' ds hl; cases ds with | nil => cases ts' <;> simp [DataW.weightsEach] | cons => simp at hl
     | cons t ts ih => intro ts' ds hl; cases ds with | nil => simp at hl | cons d ds => simp only [List.cons_append, DataW.weightsEach]; rw [ih ts' ds (by simpa using hl)]
    rw [hsub _ _ _ hlen0]; exact hy)
   simpa using this)
  have hc := law dss h2 (by simpa using h3)
  have hcall := aiR EO LO f _ _ _ _ hc W (gh0 W) args.toList (apx h1 (ado _ _))
  have e : (⟨args.toList⟩ : Array Value) = args := by cases args; rfl
  rw [e] at hcall
  refine hcall.mono fun en W' hp => ?_
  cases en with
  | outgrown => exact hp.elim
  | panicked c => obtain ⟨_, v, hv, _⟩ := hp; cases hv
  | returned v =>
   obtain ⟨_, res, obs, ors, us, G', ho, hv, hF⟩ := hp
   cases ho
   have hu : us = [.bool true] := by
    have := hF.rvs
    cases this with
    | cons _ v _ vs h hs => cases hs; rw [h.mT]
   subst hu
   have hv' : v = .bool true := hv
   subst hv'
   have hbase := hF.rel.base
   have hnoM : ∀ k, ¬ (entCtx W (gh0 W) [] []).M k := by
    rintro k ⟨l, hl⟩
    cases l <;> simp [blk, mN] at hl
   have hold : ∀ k, k < W.heap.size → W'.heap[k]? = W.heap[k]? := fun k hk => hbase.keep k hk (hnoM k)
   have hDT : ∀ t ∈ fn.params.toList, DT P t := by
    intro t ht
    have : dty P rQ t ∈ kss.map some := by rw [← hk]; exact List.mem_map_of_mem ht
    obtain ⟨ks, _, hks⟩ := List.mem_map.1 this
    exact ⟨rQ, ks, hks.symm⟩
   have hcells : ∀ b off, b < W.heap.size → W'.cell? ⟨b, off, none⟩ = W.cell? ⟨b, off, none⟩ := fun b off hb => World.cell?_of_block (hold b hb)
   have hsame : ∀ x ∈ p ++ [], W.sameAt W' x := by
    intro x hx
    have hlt := hW'.lt x hx
    cases x with
    | cell b off => exact hcells b off hlt
    | map b => exact hold b hlt
   have hlen : ds.length = fn.params.size := by
    have := (trodAll_length hA).2
    simpa using this
   have hsp := hspec (ds ++ []) (by simpa using hlen)
   refine ⟨.bool true, rfl, alx (pa := p) (pv := []) hW' (fun b sp hd => ?_) (fun sp hs => ?_) (fun sp hs => ?_) rfl (aiH hbase.os hbase.output hold) (fun b off hb => ?_) ?_⟩
   ·rw [hsp, hres]
    exact ⟨[], [], shut_bool htb true, rfl, rfl⟩
   ·rw [hsp]
    simp only [List.append_nil]
    exact abq hDT hA (fun x hx => hsame x (by simpa using hx)) (fun x hx => hs x (by simpa using hx))
   ·rw [hsp, hvars]; rfl
   ·unfold World.frozen?
    simp only [hold b hb]
   ·rw [hres]
    intro j t r hj hr
    cases j with
    | zero =>
     have e1 : tb = t := by simpa using hj
     have e2 : Value.bool true = r := by simpa [Value.resultList] using hr
     subst e1; subst e2
     exact okWide_bool_mk htb true
    | succ j => simp at hj
end
end PX
set_option linter.unusedVariables false
set_option linter.unusedSimpArgs false
namespace PX
open Go
def vB : CK → Value → Bool
 | .int k, .int k' n => kEq k k' && (n == 0)
 | .bool, .bool b => !b
 | .str, .string s => s.data.toList.isEmpty
 | .sl _, .slice none 0 0 => true
 | .ptr, .pointer none => true
 | .fn, .nilFunc => true
 | .ifc, .nilIface => true
 | _, _ => false
theorem alO {k : CK} {v : Value} (h : vB k v = true) : v = k.zeroV := by
 unfold vB at h
 split at h <;> first | (cases h; done) | skip
 ·simp only [Bool.and_eq_true] at h
  have := xJ h.1; subst this
  have := eq_of_beq h.2; subst this; rfl
 ·simp at h; subst h; rfl
 ·rename_i s
  have : s.data.toList = [] := by simpa using h
  have e : s = ⟨⟨[]⟩⟩ := by cases s with | mk d => cases d with | mk l => simp at this; subst this; rfl
  rw [e]; rfl
 all_goals rfl
def aam : List CK → List Value → Bool
 | [], [] => true
 | k :: ks, v :: vs => vB k v && aam ks vs
 | _, _ => false
theorem agE : ∀ {ks : List CK} {vs : List Value}, aam ks vs = true → vs = ks.map CK.zeroV
 | [], [], _ => rfl
 | k :: ks, v :: vs, h => by
  simp only [aam, Bool.and_eq_true] at h
  rw [alO h.1, agE h.2]; rfl
 | [], _ :: _, h => by simp [aam] at h
 | _ :: _, [], h => by simp [aam] at h
def vJ (P : Program) : List (Nat × TypeId) → List Field → Bool
 | [], [] => true
 | (o, t) :: r, f :: fs => Nat.beq f.offset o && Nat.beq f.type t && (P.info? f.type).isSome && vJ P r fs
 | _, _ => false
theorem agB {P : Program} : ∀ {l : List (Nat × TypeId)} {fs : List Field}, vJ P l fs = true → ∀ {i : Nat} {o : Nat} {t : TypeId}, l[i]? = some (o, t) → ∃ f, fs[i]? = some f ∧ f.offset = o ∧ f.type = t
 | [], _, _, i, o, t, h => by simp at h
 | _ :: _, [], h, _, _, _, _ => by simp [vJ] at h
 | (o', t') :: r, f :: fs, h, i, o, t, hi => by
  simp only [vJ, Bool.and_eq_true] at h
  cases i with
  | zero => simp at hi; exact ⟨f, rfl, by rw [Nat.eq_of_beq_eq_true h.1.1.1]; exact hi.1, by rw [Nat.eq_of_beq_eq_true h.1.1.2]; exact hi.2⟩
  | succ i => simpa using agB h.2 (i := i) (by simpa using hi)
theorem acx {P : Program} : ∀ {l : List (Nat × TypeId)} {fs : List Field}, vJ P l fs = true → ∃ places, fs.mapM (fun f => (P.info? f.type).map fun i => (f.offset, i.size)) = some places ∧
  ∀ {i : Nat} {o : Nat} {t : TypeId}, l[i]? = some (o, t) → ∃ sz, places[i]? = some (o, sz) ∧ (P.info? t).map (·.size) = some sz
 | [], [], _ => ⟨[], by simp, by simp⟩
 | [], _ :: _, h => by simp [vJ] at h
 | _ :: _, [], h => by simp [vJ] at h
 | (o', t') :: r, f :: fs, h => by
  simp only [vJ, Bool.and_eq_true] at h
  obtain ⟨pl, h1, h2⟩ := acx h.2
  obtain ⟨inf, hinf⟩ := Option.isSome_iff_exists.1 h.1.2
  have e1 := Nat.eq_of_beq_eq_true h.1.1.1
  have e2 := Nat.eq_of_beq_eq_true h.1.1.2
  refine ⟨(f.offset, inf.size) :: pl, by simp [List.mapM_cons, hinf, h1], fun {i o t} hi => ?_⟩
  cases i with
  | zero => simp at hi; obtain ⟨rfl, rfl⟩ := hi; exact ⟨inf.size, by simp [e1], by rw [← e2, hinf]; rfl⟩
  | succ i => simpa using h2 (i := i) (by simpa using hi)
def api : TypeDesc → Bool | .struct _ | .array _ _ => true | _ => false
def aog : TypeDesc → Bool | .interface _ => true | _ => false
def acP (ti : TI) (d : TypeDesc) : Bool :=
 match ti.ks, ti.agg with
 | [.sl _], false => match d with | .slice e => Nat.beq e ti.elem | _ => false
 | [.str], false => match d with | .string => true | _ => false
 | [.bool], false => match d with | .bool => true | _ => false
 | [.int k], false => match d with | .int k' => kEq k k' | _ => false
 | [.ptr], false => Nat.beq ti.elem 0 || (match d with | .pointer e => Nat.beq e ti.elem | _ => false)
 | _, _ => true
def tyB (P : Program) (t : TypeId) (ti : TI) : Bool :=
 match P.info? t, P.underlying t with
 | some i, some d => Nat.beq i.size ti.ks.length && Nat.beq i.bytes ti.bytes && (match i.zero with | some z => aam ti.ks z.cells.toList | none => false) && (api d == ti.agg) &&
   (ti.flds.isEmpty || (match d with | .struct fs => vJ P ti.flds fs.toList | _ => false)) && acP ti d && (isIfc ti || !(aog d))
 | _, _ => false
theorem aob {P : Program} {t : TypeId} {ti : TI} (h : tyB P t ti = true) : TyOK P t ti := by
 unfold tyB at h
 split at h
 ·rename_i i d hi hd
  simp only [Bool.and_eq_true] at h
  obtain ⟨⟨⟨⟨⟨⟨h1, h2⟩, h3⟩, h4⟩, h5⟩, h6⟩, h7⟩ := h
  have hf : ti.flds ≠ [] → ∃ fs, d = .struct fs ∧ vJ P ti.flds fs.toList = true := by
   intro hne
   rcases Bool.or_eq_true_iff.1 h5 with h | h
   ·simp at h; exact absurd h hne
   ·split at h
    ·exact ⟨_, rfl, h⟩
    ·cases h
  refine ⟨⟨i, hi, Nat.eq_of_beq_eq_true h1, Nat.eq_of_beq_eq_true h2, ?_⟩, ⟨d, hd, ?_⟩, fun f off ft hff => ?_, fun hne => ?_, fun ks hk ha => ?_, fun hk ha => ?_, fun hk ha => ?_, fun k hk ha => ?_, fun hk ha hne => ?_, fun hn d' hd' => ?_⟩
  ·split at h3
   ·rename_i z hz
    refine ⟨z, hz, ?_⟩
    rw [← agE h3]
   ·cases h3
  ·have := eq_of_beq h4
   rw [← this]
   cases d <;> rfl
  ·obtain ⟨fs, rfl, hb⟩ := hf (by intro h; rw [h] at hff; simp at hff)
   obtain ⟨g, hg, e1, e2⟩ := agB hb hff
   exact ⟨fs, g, hd, by simpa using hg, e1, e2⟩
  ·obtain ⟨fs, rfl, hb⟩ := hf hne
   obtain ⟨pl, p1, p2⟩ := acx hb
   exact ⟨fs, pl, hd, p1, fun i off ft h => p2 h⟩
  ·unfold acP at h6
   rw [hk, ha] at h6
   cases d <;> simp only at h6 <;> first | (cases h6; done) | (rw [hd, Nat.eq_of_beq_eq_true h6])
  ·unfold acP at h6
   rw [hk, ha] at h6
   cases d <;> simp only at h6 <;> first | (cases h6; done) | exact hd
  ·unfold acP at h6
   rw [hk, ha] at h6
   cases d <;> simp only at h6 <;> first | (cases h6; done) | exact hd
  ·unfold acP at h6
   rw [hk, ha] at h6
   cases d <;> simp only at h6 <;> first | (cases h6; done) | (rw [hd, xJ h6])
  ·unfold acP at h6
   rw [hk, ha] at h6
   have he : Nat.beq ti.elem 0 = false := by cases hb : Nat.beq ti.elem 0 <;> first | rfl | exact absurd (Nat.eq_of_beq_eq_true hb) hne
   simp only [he, Bool.false_or] at h6
   cases d <;> simp only at h6 <;> first | (cases h6; done) | (rw [hd, Nat.eq_of_beq_eq_true h6])
  ·rw [hd] at hd'; cases hd'
   rw [hn] at h7
   cases d <;> first | rfl | (simp [aog] at h7)
 ·cases h
def scB (P : Program) (t : TypeId) : CK → Bool
 | .int ik => match P.underlying t with | some (.int k) => kEq k ik | _ => false
 | .bool => match P.underlying t with | some .bool => true | _ => false
 | .str => match P.underlying t with | some .string => true | _ => false
 | _ => false
theorem an2 {P : Program} {t : TypeId} {k : CK} (h : scB P t k = true) : ScTy P t k := by
 cases k <;> simp only [scB] at h <;> first | (cases h; done) | (split at h <;> first | (cases h; done) | (rename_i hu; simp only [ScTy]; first | exact hu | (rw [hu, xJ h])))
def afu (P : Program) : Nat → List Field → List CK → Bool
 | _, [], [] => true
 | i, f :: fs, k :: ks => (f.name != "_") && Nat.beq f.offset i && scB P f.type k && afu P (i + 1) fs ks
 | _, _, _ => false
theorem aiZ {P : Program} : ∀ {fs : List Field} {n : Nat} {ks : List CK}, afu P n fs ks = true → fs.length = ks.length ∧ ∀ (i : Nat) (f : Field) (k : CK), fs[i]? = some f → ks[i]? = some k → f.name ≠ "_" ∧ f.offset = n + i ∧ ScTy P f.type k
 | [], _, [], _ => by simp
 | [], _, _ :: _, h => by simp [afu] at h
 | _ :: _, _, [], h => by simp [afu] at h
 | g :: fs, n, k' :: ks, h => by
  simp only [afu, Bool.and_eq_true] at h
  obtain ⟨a, b⟩ := aiZ h.2
  refine ⟨by simp [a], fun i f k hf hk => ?_⟩
  cases i with
  | zero =>
   simp at hf hk; subst hf; subst hk
   exact ⟨by simpa using h.1.1.1, by rw [Nat.eq_of_beq_eq_true h.1.1.2]; rfl, an2 h.1.2⟩
  | succ i =>
   obtain ⟨c, d, e⟩ := b i f k (by simpa using hf) (by simpa using hk)
   exact ⟨c, by omega, e⟩
def eqB (P : Program) (t : TypeId) (ks : List CK) : Bool :=
 (match P.underlying t with | some (.struct fs) => afu P 0 fs.toList ks | _ => false) && !(P.stoodInHeld t) && !(P.eqGuardType P.depth t)
theorem anS {P : Program} {t : TypeId} {ks : List CK} (h : eqB P t ks = true) : EqOK P t ks := by
 unfold eqB at h
 simp only [Bool.and_eq_true, Bool.not_eq_true'] at h
 refine ⟨?_, h.1.2, h.2⟩
 have h1 := h.1.1
 split at h1
 ·rename_i fs hu
  obtain ⟨a, b⟩ := aiZ h1
  exact ⟨fs, hu, a, fun i f k hf hk => by simpa using b i f k hf hk⟩
 ·cases h1
def adD {α : Type} (p : α → Prop) : List α → Prop
 | [] => True
 | a :: r => p a ∧ adD p r
theorem adD.mem {α : Type} {p : α → Prop} : ∀ {l : List α}, adD p l → ∀ a ∈ l, p a
 | [], _, a, h => by simp at h
 | x :: l, h, a, ha => by
  rcases List.mem_cons.1 ha with rfl | ha
  ·exact h.1
  ·exact adD.mem h.2 a ha
def apA (P : Program) (x : Nat × Func) : Prop := P.funcs[x.1]? = some x.2 ∧ (x.2.name == "runtime.NumGoroutine") = false ∧ x.2.body.isNone = false
theorem anK {P : Program} {E : Env} {fnL : List (Nat × Func)} {tyL : List (Nat × TI)} {tmL : List (Nat × (List Sh × List (TypeId × List Sh)))} {eqL : List (Nat × List CK)}
  (hE : E.fn = assoc fnL ∧ E.ty = assoc tyL ∧ E.tm = assoc tmL ∧ E.eqt = assoc eqL) (hfn : adD (apA P) fnL) (hty : (tyL.all fun x => tyB P x.1 x.2) = true) (heq : (eqL.all fun x => eqB P x.1 x.2) = true)
  (htm : (tmL.all fun x => fnL.any fun y => Nat.beq x.1 y.1) = true) (hm : P.follows .mixedOrders = true) {prL : List (Nat × Prim)} (hE2 : E.prim = assoc prL) (hpr : adD (fun x => PrimOK P x.1 x.2) prL) : dE P E := by
 obtain ⟨e1, e2, e3, e4⟩ := hE
 refine ⟨fun f fn h => ?_, fun f x h => ?_, fun t ti h => ?_, fun t ks h => ?_, hm, fun f p h => by rw [hE2] at h; exact hpr.mem _ (p9 h)⟩
 ·rw [e1] at h; exact hfn.mem _ (p9 h)
 ·rw [e3] at h
  have := List.all_eq_true.1 htm _ (p9 h)
  obtain ⟨y, hy, hb⟩ := List.any_eq_true.1 this
  have := Nat.eq_of_beq_eq_true hb
  simp only at this
  subst this
  exact ⟨y.2, hfn.mem _ hy⟩
 ·rw [e2] at h; exact aob (List.all_eq_true.1 hty _ (p9 h))
 ·rw [e4] at h; exact anS (List.all_eq_true.1 heq _ (p9 h))
end PX
namespace PX
open Go
theorem w64 {x : Int} (h1 : -9223372036854775808 ≤ x) (h2 : x ≤ 9223372036854775807) : IntKind.wrap .i64 x = x := by
 simp only [IntKind.wrap, IntKind.bits, IntKind.signed]; simp; omega
theorem cI {i : Nat} (h : i < 9000000000000000000) : IntKind.wrap .i64 ((i : Int) + 1) = ((i + 1 : Nat) : Int) := by rw [w64 (by omega) (by omega)]; rfl
theorem kT : fuel = 1000000000000000000 := rfl
theorem aL {α : Type} {b : Bool} {x y : α} (h : b = true) : cond b x y = x := by subst h; rfl
theorem aO {α : Type} {b : Bool} {x y : α} (h : b = false) : cond b x y = y := by subst h; rfl
theorem fP {α β : Type} {x : Option α} {a : α} {k : α → Option β} (h : x = some a) : Option.bind x k = k a := by subst h; rfl
theorem eT {α : Type} [Inhabited α] {l : List α} {i : Nat} (h : i < l.length) : List.getD l (Int.toNat (i : Int)) default = l[i] := by
 rw [Int.toNat_natCast, List.getD_eq_getElem?_getD, List.getElem?_eq_getElem h]; rfl
theorem afg {α : Type} {l : List α} {i : Nat} {d : α} (h : i < l.length) : List.getD l i d = l[i] := by
 rw [List.getD_eq_getElem?_getD, List.getElem?_eq_getElem h]; rfl
theorem inr {i n : Nat} (h : i < n) : (decide ((0 : Int) ≤ (i : Int)) && decide ((i : Int) < (n : Int))) = true := by simp; omega
theorem pA {i n : Nat} (h : i < n) : decide ((i : Int) < (n : Int)) = true := by simp; omega
theorem s0 {i n : Nat} (h : ¬ i < n) : decide ((i : Int) < (n : Int)) = false := by simp; omega
theorem af5 {α : Type} {l : List α} {i : Nat} (h : i < l.length) : l.take i ++ [l[i]] = l.take (i + 1) := (List.take_succ_eq_append_getElem h).symm
theorem aev {s : Str} {i : Nat} (h : i < s.length) (ha : s[i].toNat < 128) : dec s i = (s[i].toNat, 1) := decode_ascii ⟨⟨s⟩⟩ i h ha
theorem ahE {s : Str} {j : Nat} (h : j < s.length) : (⟨⟨s⟩⟩ : ByteArray).get! j = s[j] := by
 show (⟨s⟩ : Array UInt8)[j]! = s[j]
 rw [getElem!_pos (⟨s⟩ : Array UInt8) j h]; rfl
theorem abM {s : Str} {i : Nat} (h : i < s.length) (ha : 128 ≤ s[i].toNat) :
  128 ≤ (dec s i).1 ∧ 1 ≤ (dec s i).2 ∧ i + (dec s i).2 ≤ s.length ∧ ∀ j, i < j → j < i + (dec s i).2 → ∃ hj : j < s.length, 128 ≤ s[j].toNat := by
 have h1 := decode_high ⟨⟨s⟩⟩ i h ha
 refine ⟨h1.1, h1.2, ?_⟩
 have cont : ∀ k, (decide (i + k < (⟨⟨s⟩⟩ : ByteArray).size) && ((⟨⟨s⟩⟩ : ByteArray).get! (i + k)).toNat / 64 == 2) = true → ∃ hj : i + k < s.length, 128 ≤ s[i + k].toNat := by
  intro k hk
  simp only [Bool.and_eq_true, decide_eq_true_eq] at hk
  have hj : i + k < s.length := hk.1
  refine ⟨hj, ?_⟩
  rw [ahE hj] at hk
  have := eq_of_beq hk.2
  omega
 have one : ∀ j, i < j → j < i + 1 → ∃ hj : j < s.length, 128 ≤ s[j].toNat := fun j a b => by omega
 unfold dec Utf8.decode
 simp only [Nat.add_zero, ahE h]
 split
 ·exact ⟨by simp; omega, one⟩
 ·split
  ·rename_i hc
   simp only [Bool.and_eq_true] at hc
   have c1 := cont 1 (by simpa using hc.2)
   split
   ·refine ⟨by obtain ⟨c, _⟩ := c1; simp; omega, fun j a b => ?_⟩
    obtain rfl : j = i + 1 := by simp at b; omega
    exact c1
   ·exact ⟨by simp; omega, one⟩
  ·split
   ·rename_i hc
    simp only [Bool.and_eq_true] at hc
    have c1 := cont 1 (by simpa using hc.1.2)
    have c2 := cont 2 (by simpa using hc.2)
    split
    ·refine ⟨by obtain ⟨c, _⟩ := c2; simp; omega, fun j a b => ?_⟩
     have : j = i + 1 ∨ j = i + 2 := by simp at b; omega
     rcases this with rfl | rfl
     ·exact c1
     ·exact c2
    ·exact ⟨by simp; omega, one⟩
   ·split
    ·rename_i hc
     simp only [Bool.and_eq_true] at hc
     have c1 := cont 1 (by simpa using hc.1.1.2)
     have c2 := cont 2 (by simpa using hc.1.2)
     have c3 := cont 3 (by simpa using hc.2)
     split
     ·refine ⟨by obtain ⟨c, _⟩ := c3; simp; omega, fun j a b => ?_⟩
      have : j = i + 1 ∨ j = i + 2 ∨ j = i + 3 := by simp at b; omega
      rcases this with rfl | rfl | rfl
      ·exact c1
      ·exact c2
      ·exact c3
     ·exact ⟨by simp; omega, one⟩
    ·exact ⟨by simp; omega, one⟩
theorem akS {s : Str} {i w : Nat} (hw : i + w ≤ s.length) (hh : ∀ j, i ≤ j → j < i + w → ∃ hj : j < s.length, 128 ≤ s[j].toNat) : ∃ t, s.drop i = t ++ s.drop (i + w) ∧ ∀ b ∈ t, 128 ≤ b.toNat := by
 refine ⟨(s.drop i).take w, by rw [← List.drop_drop]; exact (List.take_append_drop _ _).symm, fun b hb => ?_⟩
 obtain ⟨k, hk, rfl⟩ := List.getElem_of_mem hb
 simp at hk
 obtain ⟨hj, h⟩ := hh (i + k) (by omega) (by omega)
 simpa using h
theorem adX {s : Str} {i : Nat} (h : i < s.length) (ha : 128 ≤ s[i].toNat) : ∃ t, s.drop i = t ++ s.drop (i + (dec s i).2) ∧ ∀ b ∈ t, 128 ≤ b.toNat := by
 obtain ⟨_, _, h3, h4⟩ := abM h ha
 refine akS h3 fun j a b => ?_
 by_cases e : j = i
 ·subst e; exact ⟨h, ha⟩
 ·exact h4 j (by omega) b
theorem ajr {t r : Str} (h : ∀ b ∈ t, 128 ≤ b.toNat) {c : UInt8} (hc : c.toNat < 128) : (t ++ r).count c = r.count c := by
 rw [List.count_append, List.count_eq_zero.2 (fun hm => by have := h c hm; omega), Nat.zero_add]
theorem oR {t r : Str} (h : ∀ b ∈ t, 128 ≤ b.toNat) {c : UInt8} (hc : c.toNat < 128) : (t ++ r).contains c = r.contains c := by
 rw [Bool.eq_iff_iff]
 simp only [List.contains_iff_mem, List.mem_append]
 exact ⟨fun hm => hm.resolve_left (fun hm => by have := h c hm; omega), .inr⟩
end PX
namespace PX
theorem kE {α : Type} (b : Bool) (x y : α) : cond (!b) x y = cond b y x := by cases b <;> rfl
theorem ahx {α : Type} (a b : Bool) (x y : α) : cond (a && b) x y = cond a (cond b x y) y := by cases a <;> rfl
theorem ajN {α : Type} (a b : Bool) (x y : α) : cond (a || b) x y = cond a x (cond b x y) := by cases a <;> rfl
theorem bR {α : Type} (x y : α) : cond true x y = x := rfl
theorem cG {α : Type} (x y : α) : cond false x y = y := rfl
theorem g5 {α β : Type} [BEq β] (a b : β) (x y : α) : cond (a != b) x y = cond (a == b) y x := by
 show cond (!(a == b)) x y = _; cases a == b <;> rfl
theorem ag3 {α : Type} (a b : Int) (x y : α) : cond (decide (a ≤ b)) x y = cond (decide (b < a)) y x := by
 by_cases h : a ≤ b
 ·rw [aL (by simpa using h), aO (by simp; omega)]
 ·rw [aO (by simpa using h), aL (by simp; omega)]
theorem ajv {α : Type} (a b : Int) (x y : α) : cond (decide (a ≥ b)) x y = cond (decide (a < b)) y x := ag3 b a x y
theorem aey {α : Type} (a b : Int) (x y : α) : cond (decide (a > b)) x y = cond (decide (b < a)) x y := rfl
theorem aW {α β : Type} (a : α) (k : α → Option β) : Option.bind (some a) k = k a := rfl
theorem adH {α β : Type} (b : Bool) (x y : Option α) (k : α → Option β) : Option.bind (cond b x y) k = cond b (Option.bind x k) (Option.bind y k) := by cases b <;> rfl
theorem yM {α : Type} (x : Option α) : Option.bind x (fun r => some r) = x := by cases x <;> rfl
theorem afB {α : Type} (b : Bool) (x : α) : cond b x x = x := by cases b <;> rfl
theorem ae6 (p : Prop) [Decidable p] : some (decide p) = cond (decide p) (some true) (some false) := by cases decide p <;> rfl
theorem ajs (b : Bool) : some (!b) = cond b (some false) (some true) := by cases b <;> rfl
theorem aa8 (a b : Bool) : some (a && b) = cond a (some b) (some false) := by cases a <;> rfl
theorem aeB (a b : Bool) : some (a || b) = cond a (some true) (some b) := by cases a <;> rfl
theorem ajV {β : Type} [BEq β] (a b : β) : some (a == b) = cond (a == b) (some true) (some false) := by cases a == b <;> rfl
def eD (a b x : Int) : Bool := decide (a ≤ x) && decide (x ≤ b)
theorem alE {α : Type} (a b x : Int) (y z : α) : cond (decide (x < a)) y (cond (decide (b < x)) y z) = cond (eD a b x) z y := by
 by_cases h1 : x < a
 ·rw [aL (by simpa using h1), aO (by simp [eD]; omega)]
 ·by_cases h2 : b < x
  ·rw [aO (by simpa using h1), aL (by simpa using h2), aO (by simp [eD]; omega)]
  ·rw [aO (by simpa using h1), aO (by simpa using h2), aL (by simp [eD]; omega)]
theorem yH {a b x : Int} : eD a b x = true ↔ a ≤ x ∧ x ≤ b := by simp [eD]
theorem acT {β : Type} [DecidableEq β] [BEq β] [LawfulBEq β] (a b : β) : (a == b) = decide (a = b) := by
 by_cases h : a = b <;> simp [h]
theorem air (p q : Prop) [Decidable p] [Decidable q] : cond (decide p) (some (decide q)) (some false) = some (decide (p ∧ q)) := by
 by_cases h : p <;> by_cases h' : q <;> simp [h, h']
theorem am2 (p : Prop) [Decidable p] : cond (decide p) (some false) (some false) = some false := by cases decide p <;> rfl
theorem amb {σ β : Type} (n : Nat) (F : Nat → Int → σ → Option β) (G : Nat → σ → Option β) (P : Nat → σ → Prop)
  (h0 : ∀ fu s, P n s → F (fu + 1) (n : Int) s = G n s)
  (h1 : ∀ fu i s, i < n → P i s → (∀ s', P (i + 1) s' → F fu ((i + 1 : Nat) : Int) s' = G (i + 1) s') → F (fu + 1) (i : Int) s = G i s) :
  ∀ (k i fu : Nat) (s : σ), i + k = n → k < fu → P i s → F fu (i : Int) s = G i s := by
 intro k
 induction k with
 | zero =>
  intro i fu s hi hf hp
  obtain ⟨fu, rfl⟩ : ∃ n, fu = n + 1 := ⟨fu - 1, by omega⟩
  obtain rfl : i = n := by omega
  exact h0 fu s hp
 | succ k ih =>
  intro i fu s hi hf hp
  obtain ⟨fu, rfl⟩ : ∃ n, fu = n + 1 := ⟨fu - 1, by omega⟩
  exact h1 fu i s (by omega) hp (fun s' hp' => ih (i + 1) fu s' (by omega) (by omega) hp')
theorem sG {σ β : Type} {n : Nat} {F : Nat → Int → σ → Option β} {G : Nat → σ → Option β} (P : Nat → σ → Prop)
  (h0 : ∀ fu s, P n s → F (fu + 1) (n : Int) s = G n s)
  (h1 : ∀ fu i s, i < n → P i s → (∀ s', P (i + 1) s' → F fu ((i + 1 : Nat) : Int) s' = G (i + 1) s') → F (fu + 1) (i : Int) s = G i s)
  (hn : n < 1000000000000000000) (s : σ) (hp : P 0 s) : F fuel 0 s = G 0 s :=
 amb n F G P h0 h1 n 0 fuel s (by omega) (by rw [kT]; omega) hp
theorem v5 {α β : Type} {l : List α} {F : Nat → Int → Option β} {g : List α → Option β}
  (h0 : ∀ fu, F (fu + 1) (l.length : Int) = g [])
  (h1 : ∀ fu i (h : i < l.length), F fu ((i + 1 : Nat) : Int) = g (l.drop (i + 1)) → F (fu + 1) (i : Int) = g (l[i] :: l.drop (i + 1)))
  (hn : l.length < 1000000000000000000) : F fuel 0 = g l := by
 have := sG (n := l.length) (F := fun fu i (_ : Unit) => F fu i) (G := fun i _ => g (l.drop i)) (fun _ _ => True)
  (fun fu s _ => by rw [List.drop_length]; exact h0 fu) (fun fu i s h _ ih => by rw [List.drop_eq_getElem_cons h]; exact h1 fu i h (ih () trivial)) hn () trivial
 simpa using this
theorem aes {σ α β : Type} {l : List α} {F : Nat → Int → σ → Option β} {g : List α → σ → Option β} (P : Nat → σ → Prop)
  (h0 : ∀ fu s, P l.length s → F (fu + 1) (l.length : Int) s = g [] s)
  (h1 : ∀ fu i s (h : i < l.length), P i s → (∀ s', P (i + 1) s' → F fu ((i + 1 : Nat) : Int) s' = g (l.drop (i + 1)) s') → F (fu + 1) (i : Int) s = g (l[i] :: l.drop (i + 1)) s)
  (hn : l.length < 1000000000000000000) (s : σ) (hp : P 0 s) : F fuel 0 s = g l s := by
 have := sG (n := l.length) (F := F) (G := fun i s => g (l.drop i) s) P
  (fun fu s hs => by rw [List.drop_length]; exact h0 fu s hs) (fun fu i s h hs ih => by rw [List.drop_eq_getElem_cons h]; exact h1 fu i s h hs ih) hn s hp
 simpa using this
theorem akd {α : Type} [DecidableEq α] {a b : α} {l r : List α} : some (decide (a :: l = b :: r)) = cond (decide (a = b)) (some (decide (l = r))) (some false) := by
 by_cases h : a = b
 ·rw [aL (by simpa using h)]; simp [h]
 ·rw [aO (by simpa using h)]; simp [h]
theorem zA {α : Type} [DecidableEq α] {a b : List α} {F : Nat → Int → Option Bool} (hl : a.length = b.length)
  (h0 : ∀ fu, F (fu + 1) (a.length : Int) = some true)
  (h1 : ∀ fu i (h : i < a.length) (h' : i < b.length), F (fu + 1) (i : Int) = cond (decide (a[i] = b[i])) (F fu ((i + 1 : Nat) : Int)) (some false))
  (hn : a.length < 1000000000000000000) : F fuel 0 = some (decide (a = b)) := by
 have := sG (n := a.length) (F := fun fu i (_ : Unit) => F fu i) (G := fun i _ => some (decide (a.drop i = b.drop i))) (fun _ _ => True)
  (fun fu s _ => by rw [List.drop_length, hl, List.drop_length]; simpa [hl] using h0 fu)
  (fun fu i s h _ ih => by
   have ih := ih () trivial
   have h2 : i < b.length := by omega
   rw [h1 fu i h h2, ih, List.drop_eq_getElem_cons h, List.drop_eq_getElem_cons h2, akd]) hn () trivial
 simpa using this
def okI (k : Go.IntKind) (x : Int) : Prop := (Go.Lit.int k x).wf = true
def okB (_ : Bool) : Prop := True
def okS (s : Str) : Prop := s.length ≤ 140737488351232
def okL {α : Type} (P : α → Prop) (l : List α) : Prop := l.length ≤ 140737488351232 ∧ ∀ x ∈ l, P x
end PX
set_option linter.unusedVariables false
namespace PX
open Go
def ajH (P : Program) (E : Env) (f : FuncId) (k : LibK) : Prop :=
 ∀ Γ, tW P E Γ → ∀ args bs rs out, yV E Γ f k args bs rs = some out → ∀ w G vs, Ent w G args bs rs vs → Calls P f ⟨vs⟩ w (xP E f (entCtx w G bs rs) bs.length out)
theorem anu {P : Program} {E : Env} {l : List (Nat × LibK)} (hl : E.lib = assoc l) (h : adD (fun x => ajH P E x.1 x.2) l) : xV P E := fun f k hk => by
 rw [hl] at hk
 exact h.mem _ (p9 hk)
end PX
