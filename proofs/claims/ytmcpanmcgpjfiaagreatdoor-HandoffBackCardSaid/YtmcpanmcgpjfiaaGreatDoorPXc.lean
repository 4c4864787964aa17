/- An evaluator of the program's Lean form that knows no memory, and the proof that what it tells of a call holds of that call: no statement of the program by itself; conditions: none beyond each theorem's own. -/
import Derived.Test.YtmcpanmcgpjfiaaGreatDoorPXb
import GoSem.ClaimData
import Derived.ChangeStays
import Derived.ChangeSame
import Derived.ChangeArms
import Derived.WideShapes
import Derived.DataElems
import Derived.JoinedCond
import Derived.WalkKit
import Derived.RowKit
import Derived.ChangeMaps5
import Derived.ChangeBears
import Derived.ChangeCalls
import Derived.KernelRfl
import Derived.Laws.RangeAny
set_option linter.unusedVariables false
set_option linter.unusedSimpArgs false
set_option linter.unusedVariables false
set_option linter.unusedSimpArgs false
namespace PX
open Go
theorem ags {n i : Nat} : ∀ (bs : List Bx) (B : Nat) (s : Sto), n < B → cX B bs s (.bc n i) = s (.bc n i)
 | [], B, s, h => rfl
 | y :: bs, B, s, h => by
  simp only [cX]
  rw [ags bs (B + 1) _ (by omega), eV _ _ _ _ (by simp; omega), bH _ _ (by simp)]
theorem akk : ∀ (bs : List Bx) (B : Nat) (s : Sto) {j : Nat} {b : Bx} {i : Nat} {x : AV}, bs[j]? = some b → b.cells[i]? = some x → cX B bs s (.bc (B + j) i) = .av x
 | [], B, s, j, b, i, x, h, hx => by simp at h
 | y :: bs, B, s, 0, b, i, x, h, hx => by
  obtain rfl : y = b := by simpa using h
  simp only [cX, Nat.add_zero]
  have hlt := (List.getElem?_eq_some_iff.1 hx).1
  rw [ags _ _ _ (by omega), eD]
  simp only [true_and, Nat.zero_le, Nat.zero_add, hlt, if_true, Nat.sub_zero]
  simp [List.getD_eq_getElem?_getD, hx]
 | y :: bs, B, s, j + 1, b, i, x, h, hx => by
  simp only [cX]
  rw [show B + (j + 1) = B + 1 + j by omega]
  exact akk bs (B + 1) _ (by simpa using h) hx
theorem afm (bs : List Bx) (rs : List Rw) {j : Nat} {b : Bx} (h : bs[j]? = some b) : outSto bs rs (.bx j) = .bx b.t b.cells.length := by
 unfold outSto
 rcases tZ rs 0 (cX 0 bs Sto.nil) (.bx j) with h1 | ⟨_, _, _, h2, _⟩
 ·have := xE bs 0 Sto.nil h
  rw [Nat.zero_add] at this
  rw [h1, this]
 ·cases h2
theorem atM (bs : List Bx) (rs : List Rw) {j : Nat} {b : Bx} {i : Nat} {x : AV} (h : bs[j]? = some b) (hx : b.cells[i]? = some x) : outSto bs rs (.bc j i) = .av x := by
 unfold outSto
 rcases tZ rs 0 (cX 0 bs Sto.nil) (.bc j i) with h1 | ⟨_, _, _, h2, _⟩
 ·have := akk bs 0 Sto.nil h hx
  rw [Nat.zero_add] at this
  rw [h1, this]
 ·cases h2
theorem acV (bs : List Bx) (rs : List Rw) {j : Nat} {r : Rw} (h : rs[j]? = some r) : outSto bs rs (.rw j) = .row r.ks r.e r.bytes r.xs false := by
 unfold outSto
 have := afj rs 0 (cX 0 bs Sto.nil) h
 rwa [Nat.zero_add] at this
theorem akv (bs : List Bx) (rs : List Rw) (l : Loc) (h : outSto bs rs l ≠ .none) : (∃ j, j < rs.length ∧ l = .rw j) ∨ (∃ j, j < bs.length ∧ l = .bx j) ∨ (∃ j i, l = .bc j i) := by
 unfold outSto at h
 rcases tZ rs 0 (cX 0 bs Sto.nil) l with h1 | ⟨j, r, h1, h2, h3⟩
 ·rcases sG bs 0 Sto.nil l with h2 | ⟨j, b, q1, q2, q3⟩ | ⟨j, b, i, x, q1, q2, q3, q4⟩
  ·rw [h1, h2] at h; exact absurd rfl h
  ·exact .inr (.inl ⟨j, (List.getElem?_eq_some_iff.1 q1).1, by rw [q2, Nat.zero_add]⟩)
  ·exact .inr (.inr ⟨_, i, q3⟩)
 ·exact .inl ⟨j, (List.getElem?_eq_some_iff.1 h1).1, by rw [h2, Nat.zero_add]⟩
def afy : CK → Bool
 | .sl _ => false
 | _ => true
section
variable {P : Program} {E : Env} {Γ : Fun} {X : Ctx} {G : Gh} {st : Sto} {a : Act} {w : World} {tr : Tr} {po : PO}
theorem DR.afy {F F' : Nat → Prop} {k : CK} {d : D} {v : Value} (h : DR F w k d v) (hk : afy k = true) : DR F' w k d v := by
 cases h with
 | int k n => exact .int k n
 | bool b => exact .bool b
 | str s => exact .str s
 | sl => simp [PX.afy] at hk
theorem RowV.afy {F F' : Nat → Prop} {ks : List CK} {e : TypeId} {xs : List (List D)} {v : Value} (h : RowV F w ks e xs v) (hk : ks.all PX.afy = true) : RowV F' w ks e xs v := by
 obtain ⟨h1, h2⟩ := h
 refine ⟨h1, ?_⟩
 rcases h2 with h2 | ⟨g, c, cur, rfl, hc, hh, h3, h4, h5, h6⟩
 ·exact .inl h2
 ·exact .inr ⟨g, c, cur, rfl, hc, hh, h3, h4, h5, fun j el i d k a b cc => by
   obtain ⟨u, hu, hd⟩ := h6 j el i d k a b cc
   exact ⟨u, hu, hd.afy ((List.all_eq_true.1 hk) k (List.mem_of_getElem? cc))⟩⟩
mutual
theorem arP : ∀ (s : Sh), Sh.leads s = false → ∀ p ∈ Sh.rows s, p.1.all PX.afy = true
 | .row r ks e b, h, p, hp => by
  simp only [Sh.rows, List.mem_singleton] at hp
  subst hp
  simp only [Sh.leads, List.any_eq_false] at h
  rw [List.all_eq_true]
  intro k hk
  have := h k hk
  cases k <;> simp_all [PX.afy]
 | .agg ss, h, p, hp => afH ss (by simpa [Sh.leads] using h) p (by simpa [Sh.rows] using hp)
 | .int _, _, p, hp => by simp [Sh.rows] at hp
 | .bool, _, p, hp => by simp [Sh.rows] at hp
 | .str, _, p, hp => by simp [Sh.rows] at hp
 | .sl _, _, p, hp => by simp [Sh.rows] at hp
 | .win _, _, p, hp => by simp [Sh.rows] at hp
 | .ptr _ _, _, p, hp => by simp [Sh.rows] at hp
 | .it _, _, p, hp => by simp [Sh.rows] at hp
 | .nilp, _, p, hp => by simp [Sh.rows] at hp
 | .fn _ _ _, _, p, hp => by simp [Sh.rows] at hp
 | .ifc _ _, _, p, hp => by simp [Sh.rows] at hp
 | .any, _, p, hp => by simp [Sh.rows] at hp
theorem afH : ∀ (ss : List Sh), Sh.wS ss = false → ∀ p ∈ Sh.acI ss, p.1.all PX.afy = true
 | [], _, p, hp => by simp [Sh.acI] at hp
 | s :: ss, h, p, hp => by
  simp only [Sh.wS, Bool.or_eq_false_iff] at h
  simp only [Sh.acI, List.mem_append] at hp
  rcases hp with hp | hp
  ·exact arP s h.1 p hp
  ·exact afH ss h.2 p hp
end
theorem aod : ∀ {l : List (List CK × TypeId × Nat)} {rs : List Rw}, aem l rs = rs → ∀ r ∈ rs, ∃ p ∈ l, r.ks = p.1
 | [], rs, h, r, hr => by
  have : rs = [] := h.symm
  subst this; cases hr
 | (ks, e, b) :: l, rs, h, r, hr => by
  cases rs with
  | nil => cases hr
  | cons x rs =>
   simp only [aem, List.tail_cons, List.cons.injEq] at h
   rcases List.mem_cons.1 hr with rfl | hr
   ·exact ⟨(ks, e, b), by simp, by have := congrArg Rw.ks h.1; exact this.symm⟩
   ·obtain ⟨p, hp, e'⟩ := aod h.2 r hr
    exact ⟨p, by simp [hp], e'⟩
theorem al2 : ∀ {l : List (TypeId × List Sh)} {bs : List Bx}, aaM l bs = bs → ∀ b ∈ bs, ∃ p ∈ l, Sh.coL p.2 b.cells = b.cells
 | [], bs, h, b, hb => by
  have : bs = [] := h.symm
  subst this; cases hb
 | (t, ss) :: l, bs, h, b, hb => by
  cases bs with
  | nil => cases hb
  | cons x bs =>
   simp only [aaM, List.tail_cons, List.cons.injEq, List.head?_cons, Option.map_some, Option.getD_some] at h
   rcases List.mem_cons.1 hb with rfl | hb
   ·exact ⟨(t, ss), by simp, by have := congrArg Bx.cells h.1; exact this⟩
   ·obtain ⟨p, hp, e'⟩ := al2 h.2 b hb
    exact ⟨p, by simp [hp], e'⟩
theorem amX {X' : Ctx} {G' : Gh} {w' : World} {obs : List Bx} {ors : List Rw} (R : Rel X' G' (outSto obs ors) act0 w') {j : Nat} {b : Bx} (hj : obs[j]? = some b) :
  (∃ vs : List Value, w'.heap[G'.bb j]? = some (.cells ⟨vs⟩ b.t (0, 0)) ∧ vs.length = b.cells.length ∧ AVRs G' w' b.cells vs) ∧ b.cells.all AV.one = true := by
 have hb := afm obs ors hj
 obtain ⟨arr, h1, h2⟩ := R.bx j _ _ hb
 have hc : ∀ i x, b.cells[i]? = some x → outSto obs ors (.bc j (0 + i)) = .av x := fun i x hx => by rw [Nat.zero_add]; exact atM obs ors hj hx
 obtain ⟨vs, h3, h4⟩ := ab6 R (b := j) (off := 0) hc
 have hl : vs.length = b.cells.length := h3.length.symm
 have hva : vs = arr.toList := by
  apply List.ext_getElem?
  intro i
  by_cases hi : i < b.cells.length
  ·have h5 := h4 i (vs[i]'(by omega)) (List.getElem?_eq_getElem _)
   rw [cell_of_row w' _ _ arr b.t (0, 0) h1, Nat.zero_add] at h5
   rw [List.getElem?_eq_getElem (by omega), Array.getElem?_toList, h5]
  ·rw [List.getElem?_eq_none (by omega), List.getElem?_eq_none (by simp; omega)]
 subst hva
 exact ⟨⟨arr.toList, h1, by simpa using h2, h3⟩, AVRs.amG R hc⟩
theorem aoH {G0 : Gh} {bl rl : List Nat} {bs : List Bx} {rs : List Rw} (hb : bs.length = bl.length) (hr : rs.length = rl.length)
  (h1 : ∀ (j o : Nat), bl[j]? = some o → G0.bb (2000000000 + j) = G.bb o) (h2 : ∀ (j o : Nat), rl[j]? = some o → G0.rv (2000000000 + j) = G.rv o) {k : Nat} (h : ∃ l, blk G0 (inSto bs rs) l = some k) :
  (∃ j o : Nat, bl[j]? = some o ∧ k = G.bb o) ∨ (∃ j o : Nat, rl[j]? = some o ∧ rowBlk (G.rv o) = some k) := by
 obtain ⟨l, h⟩ := h
 cases l with
 | tm i => simp [blk] at h
 | bc i j => simp [blk] at h
 | bx n =>
  rcases ads bs rs (.bx n) with q | ⟨_, _, _, q, _⟩ | ⟨j, b, q1, q2, q3⟩ | ⟨_, _, _, _, _, _, q, _⟩
  ·simp [blk, q] at h
  ·cases q
  ·injection q2 with q2; subst q2
   have hlt : j < bl.length := by have := (List.getElem?_eq_some_iff.1 q1).1; omega
   simp only [blk, q3, Option.some.injEq] at h
   exact .inl ⟨j, bl[j], List.getElem?_eq_getElem hlt, by rw [← h, h1 j _ (List.getElem?_eq_getElem hlt)]⟩
  ·cases q
 | rw n =>
  rcases ads bs rs (.rw n) with q | ⟨j, r, q1, q2, q3⟩ | ⟨_, _, _, q, _⟩ | ⟨_, _, _, _, _, _, q, _⟩
  ·simp [blk, q] at h
  ·injection q2 with q2; subst q2
   have hlt : j < rl.length := by have := (List.getElem?_eq_some_iff.1 q1).1; omega
   simp only [blk, q3] at h
   exact .inr ⟨j, rl[j], List.getElem?_eq_getElem hlt, by rw [← h2 j _ (List.getElem?_eq_getElem hlt)]; exact h⟩
  ·cases q
  ·cases q
 | it n =>
  rcases ads bs rs (.it n) with q | ⟨_, _, _, q, _⟩ | ⟨_, _, _, q, _⟩ | ⟨_, _, _, _, _, _, q, _⟩
  ·simp [blk, q] at h
  ·cases q
  ·cases q
  ·cases q
end
end PX
set_option linter.unusedVariables false
set_option linter.unusedSimpArgs false
namespace PX
open Go
section
variable {P : Program} {E : Env} {Γ : Fun} {X : Ctx} {G : Gh} {st : Sto} {a : Act} {w : World} {tr : Tr} {po : PO}
def arp (X : Ctx) (a : Act) (po : PO) : Ending → World → Prop
 | .returned v, w' => ∃ av S tr' G', po = .val av S tr' ∧ Rel X G' S a w' ∧ AVR G' w' av v ∧ ∀ l ∈ av.refs, S l ≠ .none
 | .panicked chain, w' => ∃ v, po = .pan v ∧ aqb X v chain w'
 | .outgrown, _ => False
mutual
theorem an8 : ∀ (x : AV) (b i : Nat), Loc.bc b i ∉ x.refs
 | .d _, b, i => by simp [AV.refs]
 | .dead, b, i => by simp [AV.refs]
 | .undf, b, i => by simp [AV.refs]
 | .anyb, b, i => by simp [AV.refs]
 | .nil, b, i => by simp [AV.refs]
 | .nilp, b, i => by simp [AV.refs]
 | .nilf, b, i => by simp [AV.refs]
 | .nili, b, i => by simp [AV.refs]
 | .ptr _ _, b, i => by simp [AV.refs]
 | .ep _ _ _, b, i => by simp [AV.refs]
 | .rp _ _ _, b, i => by simp [AV.refs]
 | .row _, b, i => by simp [AV.refs]
 | .win _ _ _, b, i => by simp [AV.refs]
 | .agg cs, b, i => by simp only [AV.refs]; exact zM cs b i
 | .tup cs, b, i => by simp only [AV.refs]; exact zM cs b i
 | .fn f x y, b, i => by simp only [AV.refs, List.mem_append, not_or]; exact ⟨zM x b i, zM y b i⟩
 | .it _, b, i => by simp [AV.refs]
 | .ifc t v, b, i => by simp only [AV.refs]; exact an8 v b i
theorem zM : ∀ (xs : List AV) (b i : Nat), Loc.bc b i ∉ AV.refsL xs
 | [], b, i => by simp [AV.refsL]
 | x :: xs, b, i => by simp only [AV.refsL, List.mem_append, not_or]; exact ⟨an8 x b i, zM xs b i⟩
end
theorem ayo {G : Gh} {l : List AV} {us : List Value} (h : AVRs G w l us) : AVR G w (aoL l) (pack us) := by
 cases h with
 | nil => exact .tup _ _ .nil
 | cons x u xs us h hs =>
  cases hs with
  | nil => exact h
  | cons y v ys vs h2 hs2 => exact .tup _ _ (.cons _ _ _ _ h (.cons _ _ _ _ h2 hs2))
theorem asm (l : List AV) : (aoL l).refs = AV.refsL l := by
 rcases l with _ | ⟨x, _ | ⟨y, l⟩⟩ <;> simp [aoL, AV.refs, AV.refsL]
theorem ahp (hG : ad2 P E Γ) (R : Rel X G st a w) {as : List AV} {vs : List Value} {F1 : Nat → Prop} (hA : AVRs (G.kL F1) w as vs) {d : Nat} {f : FuncId} {ss : List Sh} {tbs : List (TypeId × List Sh)} {rl : List Nat}
  (htm : E.tm f = some (ss, tbs)) (hrl : rl.Nodup) (hF1 : ∀ k, F1 k → ∃ r, r ∉ rl ∧ blk G st (.rw r) = some k)
  (hlead : (∀ k, ¬ F1 k) ∨ (Sh.wS ss = false ∧ ∀ b ∈ tbs, Sh.wS b.2 = false))
  (h : prE Γ (aga E d f ss tbs as rl) st tr = some po) : Calls P f ⟨vs⟩ w (arp X a po) := by
 unfold aga at h
 obtain ⟨hrefs, h1⟩ := dF h
 generalize hblE : acs as = bl at h1
 have hbln : bl.Nodup := by rw [← hblE]; exact acB (by simp)
 obtain ⟨Gc, st1, bs, tr1, R1, g1, t1, hbl, hbs, h2⟩ := ahZ R h1
 obtain ⟨st2, rs, tr2, R2, hrs, hrs', hoff, hgone, h3⟩ := aip R1 h2
 simp only [prE] at h3
 split at h3
 case h_2 => cases h3
 rename_i o hΓ
 have hA' : AVRs (Gc.kL fun k => F1 k ∧ ∃ r, r ∉ rl ∧ blk Gc st1 (.rw r) = some k) w as vs := by
  refine AVRs.mono (fun k hk => ?_) (fun _ _ => rfl) hA (fun l _ => by cases l <;> simp [kX, Gh.kL, g1.bb, g1.rv, g1.rs, g1.ib])
  rcases hk with hk | hk
  ·exact .inl (g1.F k hk)
  ·obtain ⟨r, hr, hb⟩ := hF1 k hk
   simp only [blk] at hb
   split at hb
   ·rename_i ks e by_ xs hrow
    rcases t1.row r with h' | ⟨ks', e', b', xs', fz', h', h''⟩
    ·exact .inr ⟨hk, r, hr, by simp only [blk, h', hrow, g1.rv]; exact hb⟩
    ·obtain ⟨_, _, _, _, q5⟩ := R1.rw r _ _ _ _ _ h''
     exact .inl (q5 rfl k (by rw [g1.rv]; exact hb))
   ·cases hb
 have hrefs' : ∀ l ∈ AV.refsL as, (∃ b ∈ bl, l = .bx b) ∨ (∃ r ∈ rl, l = .rw r) := by
  intro l hl
  have := (List.all_eq_true.1 hrefs) l hl
  cases l with
  | bx b => exact .inl ⟨b, by rw [← hblE]; exact arf.2 hl, rfl⟩
  | rw r => exact .inr ⟨r, any_beq.1 this, rfl⟩
  | tm i => cases this
  | bc i j => cases this
  | it i => cases this
 obtain ⟨G0, hE, hF0, hbb, hrv⟩ := aDL R1 hbln hrl hbl hbs hrs hrs' (fun k hk => hk.2) hA' hrefs'
 have hbox : ∀ (j o : Nat), bl[j]? = some o → ∃ b : Bx, bs[j]? = some b ∧ arO Gc st1 w o b := by
  intro j o ho
  have hlt : j < bs.length := by have := (List.getElem?_eq_some_iff.1 ho).1; omega
  obtain ⟨o', ho', hB⟩ := hbs j bs[j] (List.getElem?_eq_getElem hlt)
  rw [ho] at ho'; obtain rfl := Option.some.inj ho'
  exact ⟨_, List.getElem?_eq_getElem hlt, hB⟩
 have hrow : ∀ (j o : Nat), rl[j]? = some o → ∃ r : Rw, rs[j]? = some r ∧ st1 (.rw o) = .row r.ks r.e r.bytes r.xs false := by
  intro j o ho
  have hlt : j < rs.length := by have := (List.getElem?_eq_some_iff.1 ho).1; omega
  obtain ⟨o', ho', hB⟩ := hrs' j rs[j] (List.getElem?_eq_getElem hlt)
  rw [ho] at ho'; obtain rfl := Option.some.inj ho'
  exact ⟨_, List.getElem?_eq_getElem hlt, hB⟩
 have hblkB : ∀ (j o : Nat), bl[j]? = some o → blk Gc st1 (.bx o) = some (Gc.bb o) := fun j o ho => by
  obtain ⟨b, _, hB⟩ := hbox j o ho
  simp [blk, hB.bx]
 have hblkR : ∀ (j o k : Nat), rl[j]? = some o → rowBlk (Gc.rv o) = some k → blk Gc st1 (.rw o) = some k := fun j o k ho hk => by
  obtain ⟨r, _, hr⟩ := hrow j o ho
  simp [blk, hr, hk]
 have hM : ∀ k, (entCtx w G0 bs rs).M k → (X.B ≤ k ∨ X.M k) ∧ ¬ Gc.F k := by
  intro k hk
  rcases aoH hbl hrs hbb hrv hk with ⟨j, o, ho, rfl⟩ | ⟨j, o, ho, hk⟩
  ·have := R1.own _ _ (hblkB j o ho); exact ⟨this.2.2, this.1⟩
  ·have := R1.own _ _ (hblkR j o k ho hk); exact ⟨this.2.2, this.1⟩
 have hF0' : ∀ k, G0.F k → Gc.F k ∨ X.B ≤ k ∨ X.M k := by
  intro k hk
  rcases (hF0 k).1 hk with hk | ⟨_, r, _, hb⟩
  ·exact .inl hk
  ·exact .inr (R1.own _ _ hb).2.2
 refine Calls.mono (hG f _ bs rs o hΓ w G0 vs hE) (fun e w' hp => ?_)
 cases e with
 | outgrown => exact hp.elim
 | panicked chain =>
  obtain ⟨hco, v, rfl, G', u, hch, hv, hb⟩ := hp
  obtain ⟨sh, hpv, hcv, _⟩ := hco
  simp only [hpv, prE, Out.asS, Out.ayS, hcv, Option.some.injEq] at h3
  subst h3
  refine ⟨v, rfl, G', u, hch, hv, hb.os.trans R1.base.os, hb.tape.trans R1.base.tape, hb.output.trans R1.base.output, Nat.le_trans R1.base.size hb.size, fun k hk hm => ?_, fun k hk => hb.F0 k ((hF0 k).2 (.inl (R1.base.F0 k hk))), hb.Flt, fun k hk => ?_⟩
  ·rw [hb.keep k (Nat.lt_of_lt_of_le hk R1.base.size) (fun hm' => by
    rcases (hM k hm').1 with h' | h'
    ·omega
    ·exact hm h')]
   exact R1.base.keep k hk hm
  ·rcases hb.Fnew k hk with h' | h' | h'
   ·rcases hF0' k h' with h'' | h''
    ·exact R1.base.Fnew k h''
    ·exact .inr h''
   ·exact .inr (.inl (Nat.le_trans R1.base.size h'))
   ·exact .inr (hM k h').1
 | returned v =>
  obtain ⟨hco, res, obs, ors, us, G4, rfl, rfl, hf⟩ := hp
  obtain ⟨ss', tbs', htm', c1, c2, c3, c4, c5, c6⟩ := hco
  rw [htm] at htm'
  simp only [Option.some.injEq, Prod.mk.injEq] at htm'
  obtain ⟨rfl, rfl⟩ := htm'
  have hback : prE Γ (alH d ss tbs bl (.ret res obs ors)) st2 tr2 = some po := by
   split at h3
   ·exact h3
   ·simpa only [prE, Out.asS] using h3
  unfold alH at hback
  simp only [Out.bxs, Out.rws, Out.res, c1, c2, c3] at hback
  obtain ⟨S1, tr3, b1, b2, b3, b4, h4⟩ := ahT hbln hback
  have hX0 : ∀ k, k < bs.length → G4.bb k = G0.bb (2000000000 + k) := hf.boxes
  have hblk2 : ∀ l k, blk Gc st2 l = some k → blk Gc st1 l = some k ∧ ∀ o ∈ rl, l ≠ .rw o := by
   intro l k hl
   have hne : ∀ o ∈ rl, l ≠ .rw o := by
    rintro o ho rfl
    simp [blk, hgone o ho] at hl
   refine ⟨?_, hne⟩
   have e := hoff l hne
   cases l <;> simp only [blk] at hl ⊢ <;> first | exact hl | skip
   ·rw [hoff _ (by simp)] at hl; exact hl
   ·rw [e] at hl; exact hl
   ·rw [hoff _ (by simp)] at hl; exact hl
  have hlentF : ∀ (j o : Nat), bl[j]? = some o → ¬ G4.F (Gc.bb o) := by
   intro j o ho
   obtain ⟨b, hb, hB⟩ := hbox j o ho
   have hjl : j < bs.length := (List.getElem?_eq_some_iff.1 hb).1
   have hj : j < obs.length := by omega
   have hblk : blk G4 (outSto obs ors) (.bx j) = some (G4.bb j) := by simp [blk, afm obs ors (List.getElem?_eq_getElem hj)]
   have := (hf.rel.own _ _ hblk).1
   rw [hX0 j hjl, hbb j o ho] at this
   exact this
  obtain ⟨Fs, f1, f2, f3, fv, fb, fr⟩ : ∃ Fs : Nat → Prop, (∀ k, Gc.F k → Fs k) ∧ (∀ k, Fs k → G4.F k) ∧ (∀ l k, blk Gc st2 l = some k → ¬ Fs k) ∧
    AVRs (G4.sL Fs) w' res us ∧ (∀ b ∈ obs, ∀ vs, AVRs G4 w' b.cells vs → AVRs (G4.sL Fs) w' b.cells vs) ∧ (∀ r ∈ ors, ∀ v, RowV G4.F w' r.ks r.e r.xs v → RowV Fs w' r.ks r.e r.xs v) := by
   have hG04 : ∀ k, Gc.F k → G4.F k := fun k hk => hf.rel.base.F0 k ((hF0 k).2 (.inl hk))
   rcases hlead with hno | ⟨hl1, hl2⟩
   ·refine ⟨G4.F, hG04, fun k h => h, fun l k hl hk => ?_, hf.rvs, fun _ _ _ h => h, fun _ _ _ h => h⟩
    obtain ⟨hl1, hne⟩ := hblk2 l k hl
    obtain ⟨o1, o2, o3⟩ := R1.own _ _ hl1
    rcases hf.rel.base.Fnew k hk with h' | h' | h'
    ·rcases (hF0 k).1 h' with h' | h'
     ·exact o1 h'
     ·exact hno k h'.1
    ·have : w.heap.size ≤ k := h'
     omega
    ·rcases aoH hbl hrs hbb hrv h' with ⟨j, o, ho, rfl⟩ | ⟨j, o, ho, hk'⟩
     ·exact hlentF j o ho hk
     ·have := R1.inj _ _ _ hl1 (hblkR j o k ho hk')
      exact hne o (List.mem_of_getElem? ho) this
   ·refine ⟨Gc.F, fun k h => h, hG04, fun l k hl => (R2.own l k hl).1, aaO Gc.F ss c1 hl1 hf.rvs, fun b hb vs hv => ?_, fun r hr v hv => ?_⟩
    ·obtain ⟨p, hp, hc⟩ := al2 c2 b hb
     exact aaO Gc.F p.2 hc (hl2 p hp) hv
    ·obtain ⟨p, hp, hc⟩ := aod c3 r hr
     exact hv.afy (by rw [hc]; exact afH ss hl1 p hp)
  have hoff' : ∀ l, (∀ r, l ≠ .rw r) → st2 l = st1 l := fun l hl => hoff l (fun o _ => hl o)
  have hnewF : ∀ k, G4.F k → X.F0 k ∨ X.B ≤ k ∨ X.M k := by
   intro k hk
   rcases hf.rel.base.Fnew k hk with h' | h' | h'
   ·rcases hF0' k h' with h'' | h''
    ·exact R1.base.Fnew k h''
    ·exact .inr h''
   ·exact .inr (.inl (Nat.le_trans R1.base.size h'))
   ·exact .inr (hM k h').1
  have hG4bb : ∀ (j o : Nat), bl[j]? = some o → G4.bb j = Gc.bb o := fun j o ho => by
   obtain ⟨b, hb, _⟩ := hbox j o ho
   rw [hX0 j (List.getElem?_eq_some_iff.1 hb).1, hbb j o ho]
  have hflat : ∀ {b : Bx} {i : Nat} {x : AV}, b ∈ obs → b.cells[i]? = some x → x.refs = [] := fun {b i x} hb hx => by
   refine List.eq_nil_iff_forall_not_mem.2 (fun l hl => ?_)
   have := rD hx hl
   rw [c6 b hb] at this; cases this
  have hb1 : ∀ (j b : Nat), bl[j]? = some b → ∃ x, obs[j]? = some x ∧ st2 (.bx b) = .bx x.t x.cells.length ∧ ∀ (i : Nat) (v : AV), i < x.cells.length → S1 (.bc b i) = .av v → x.cells[i]? = some v := by
   intro j b hj
   obtain ⟨x, h5, h6, h7⟩ := b1 j b hj
   rw [List.getElem?_take] at h5
   split at h5
   ·exact ⟨x, h5, h6, h7⟩
   ·cases h5
  have hown4 : ∀ l' g, blk G4 (outSto obs ors) l' = some g → (∀ j, j < bl.length → l' ≠ .bx j) → ¬ Fs g ∧ g < w'.heap.size ∧ (X.B ≤ g ∨ X.M g) ∧ ∀ l, blk Gc st2 l ≠ some g := by
   intro l' g hl hne
   obtain ⟨o1, o2, o3⟩ := hf.rel.own _ _ hl
   refine ⟨fun h => o1 (f2 g h), o2, ?_, fun l hl2 => ?_⟩
   ·rcases o3 with h' | h'
    ·exact .inl (Nat.le_trans R1.base.size h')
    ·exact (hM g h').1
   ·obtain ⟨hl1, hne1⟩ := hblk2 l g hl2
    rcases o3 with h' | h'
    ·have : w.heap.size ≤ g := h'
     have := (R1.own _ _ hl1).2.1
     omega
    ·rcases aoH hbl hrs hbb hrv h' with ⟨j, o, ho, rfl⟩ | ⟨j, o, ho, hk'⟩
     ·obtain ⟨b, hb, _⟩ := hbox j o ho
      have hjl : j < bs.length := (List.getElem?_eq_some_iff.1 hb).1
      have hbk : blk G4 (outSto obs ors) (.bx j) = some (Gc.bb o) := by
       rw [← hG4bb j o ho]
       simp [blk, afm obs ors (List.getElem?_eq_getElem (show j < obs.length by omega))]
      exact hne j (by omega) (hf.rel.inj _ _ _ hl hbk)
     ·exact hne1 o (List.mem_of_getElem? ho) (R1.inj _ _ _ hl1 (hblkR j o g ho hk'))
  have R3 : Rel X (Gc.sL Fs) S1 a w' := by
   refine R2.called (D := fun k => ∃ j o : Nat, rl[j]? = some o ∧ rowBlk (Gc.rv o) = some k) (bl := bl) hf.rel.base.os hf.rel.base.tape hf.rel.base.output hf.rel.base.size (fun k hk h5 h6 => ?_) ?_ f1 (fun k hk => ⟨hf.rel.base.Flt k (f2 k hk), hnewF k (f2 k hk)⟩) f3 (fun b hb => ?_) b2 b3 (fun b hb t n hbx => ?_) (fun b hb i v hv => ?_)
   ·refine hf.rel.base.keep k hk (fun h' => ?_)
    rcases aoH hbl hrs hbb hrv h' with ⟨j, o, ho, e⟩ | ⟨j, o, ho, hk'⟩
    ·exact h5 o (List.mem_of_getElem? ho) e.symm
    ·exact h6 ⟨j, o, ho, hk'⟩
   ·rintro k ⟨j, o, ho, hk⟩
    have h5 := hblkR j o k ho hk
    obtain ⟨o1, o2, o3⟩ := R1.own _ _ h5
    refine ⟨o3, o1, fun l hl => ?_⟩
    obtain ⟨hl1, hne1⟩ := hblk2 l k hl
    exact hne1 o (List.mem_of_getElem? ho) (R1.inj _ _ _ hl1 h5)
   ·obtain ⟨j, hj⟩ := List.getElem?_of_mem hb
    obtain ⟨x, _, h6, _⟩ := hb1 j b hj
    exact ⟨_, _, h6⟩
   ·obtain ⟨j, hj⟩ := List.getElem?_of_mem hb
    obtain ⟨x, h5, h6, _⟩ := hb1 j b hj
    rw [hbx] at h6; injection h6 with e1 e2; subst e1; subst e2
    obtain ⟨⟨vs', m1, m2, m3⟩, _⟩ := amX hf.rel h5
    exact ⟨⟨vs'⟩, by rw [← hG4bb j b hj]; exact m1, by simpa using m2⟩
   ·obtain ⟨j, hj⟩ := List.getElem?_of_mem hb
    obtain ⟨x, h5, h6, h7⟩ := hb1 j b hj
    obtain ⟨v', hv'⟩ := b4 b hb i v hv
    obtain ⟨t', n', cs', u', y1, y2, y3, _⟩ := R2.bc b i v' hv'
    obtain ⟨cs2, y4, y5⟩ := R2.bx b t' n' y1
    rw [y2] at y4; injection y4 with y4; injection y4 with y4; subst y4
    rw [h6] at y1; injection y1 with e1 e2; subst e1; subst e2
    have hi : i < x.cells.length := by have := (Array.getElem?_eq_some_iff.1 y3).1; omega
    have hx := h7 i v hi hv
    obtain ⟨⟨vs', m1, m2, m3⟩, m4⟩ := amX hf.rel h5
    obtain ⟨u, hu, hau⟩ := (fb x (List.mem_of_getElem? h5) vs' m3).get hx
    have hr0 := hflat (List.mem_of_getElem? h5) hx
    refine ⟨x.t, x.cells.length, ⟨vs'⟩, u, h6, by rw [← hG4bb j b hj]; exact m1, by simpa using hu, ?_, (List.all_eq_true.1 m4) _ (List.mem_of_getElem? hx), hr0⟩
    exact AVR.mono (G := G4.sL Fs) (G' := Gc.sL Fs) (fun _ h => h) (fun _ _ => rfl) hau (fun l hl => by rw [hr0] at hl; cases hl)
  have hblk3 : ∀ l, blk (Gc.sL Fs) S1 l = blk Gc st2 l := by
   intro l
   cases l <;> simp only [blk, Gh.sL] <;> rw [b2 _ (by simp)]
  have hdrop : ∀ (j : Nat) (b : Bx), (obs.drop bl.length)[j]? = some b → obs[bl.length + j]? = some b := fun j b hj => by rw [List.getElem?_drop] at hj; exact hj
  have hblk4 : ∀ j, j < obs.length → blk G4 (outSto obs ors) (.bx j) = some (G4.bb j) := fun j hj => by simp [blk, afm obs ors (List.getElem?_eq_getElem hj)]
  obtain ⟨G5, S5, tr5, R5, z1, z2, z3, z4, z5, z6, z7, z8, z9, z10, h5⟩ := ajp (fun j => G4.bb (bl.length + j)) R3 h4 (fun j b hj => by
   have hj' := hdrop j b hj
   have hlt := (List.getElem?_eq_some_iff.1 hj').1
   obtain ⟨⟨vs', m1, m2, m3⟩, m4⟩ := amX hf.rel hj'
   obtain ⟨o1, o2, o3, o4⟩ := hown4 _ _ (hblk4 _ hlt) (fun i hi e => by injection e with e; omega)
   refine ⟨⟨vs', m1, ?_⟩, ⟨o1, o2, o3⟩, fun l => by rw [hblk3]; exact o4 l, m4, c6 b (List.mem_of_getElem? hj')⟩
   exact AVRs.mono (G := G4.sL Fs) (G' := Gc.sL Fs) (fun _ h => h) (fun _ _ => rfl) (fb b (List.mem_of_getElem? hj') vs' m3) (fun l hl => by rw [c6 b (List.mem_of_getElem? hj')] at hl; cases hl)) (fun i j hi hj e => by
   simp only [List.length_drop] at hi hj
   have h1 := hblk4 (bl.length + i) (by omega)
   rw [e] at h1
   have := hf.rel.inj _ _ _ h1 (hblk4 (bl.length + j) (by omega))
   injection this with this; omega)
  have hG5F : G5.F = Fs := z1
  obtain ⟨G6, S6, tr6, R6, y1, y2, y3, y4, y5, y6, h6⟩ := akc G4.rv R5 h5 (fun j r hj => by
   obtain ⟨q1, q2, q3, q4, _⟩ := hf.rel.rw j _ _ _ _ _ (acV obs ors hj)
   refine ⟨q3, q2, by rw [hG5F]; exact fr r (List.mem_of_getElem? hj) _ q4, fun g hg => ?_⟩
   have hb : blk G4 (outSto obs ors) (.rw j) = some g := by simp [blk, acV obs ors hj, hg]
   obtain ⟨o1, o2, o3, o4⟩ := hown4 _ _ hb (fun i hi e => by cases e)
   refine ⟨by rw [hG5F]; exact o1, o2, o3, fun l hl => ?_⟩
   rcases z10 l g hl with h' | ⟨j', hj', e⟩
   ·rw [hblk3] at h'; exact o4 l h'
   ·simp only [List.length_drop] at hj'
    have h1 := hblk4 (bl.length + j') (by omega)
    rw [← e] at h1
    have := hf.rel.inj _ _ _ hb h1
    cases this) (fun i j g hi hj e1 e2 => by
   have h1 : blk G4 (outSto obs ors) (.rw i) = some g := by simp [blk, acV obs ors (List.getElem?_eq_getElem hi), e1]
   have h2 : blk G4 (outSto obs ors) (.rw j) = some g := by simp [blk, acV obs ors (List.getElem?_eq_getElem hj), e2]
   have := hf.rel.inj _ _ _ h1 h2
   injection this)
  have := iQ h6
  subst this
  have hbl1 : ∀ (j o : Nat), bl[j]? = some o → S1 (.bx o) ≠ .none := fun j o ho => by
   obtain ⟨x, _, h6', _⟩ := hb1 j o ho
   rw [b2 _ (by simp), h6']; simp
  refine ⟨_, S6, _, G6, rfl, R6, ayo (AVRs.ren (G := G4.sL Fs) (fun k hk => by rw [y1, hG5F]; exact hk) fv (fun l hl => ?_)), fun l hl => ?_⟩
  ·rcases akv obs ors l (hf.refs l hl) with ⟨j, hj, rfl⟩ | ⟨j, hj, rfl⟩ | ⟨j, i, rfl⟩
   ·obtain ⟨e1, e2⟩ := y4 j _ (List.getElem?_eq_getElem hj)
    refine ⟨e1, ?_⟩
    rw [e2]
    exact (hf.rel.rw j _ _ _ _ _ (acV obs ors (List.getElem?_eq_getElem hj))).1.symm
   ·simp only [ath, y2]
    by_cases hlt : j < bl.length
    ·have : Nat.blt j bl.length = true := Nat.ble_eq_true_of_le hlt
     simp only [this, cond_true]
     have hg : bl.getD j 0 = bl[j] := by simp [List.getD_eq_getElem?_getD, List.getElem?_eq_getElem hlt]
     rw [hg, z5 _ (hbl1 j _ (List.getElem?_eq_getElem hlt))]
     exact (hG4bb j _ (List.getElem?_eq_getElem hlt)).symm
    ·have : Nat.blt j bl.length = false := by
      cases hb : Nat.blt j bl.length
      ·rfl
      ·exact absurd (Nat.le_of_ble_eq_true hb) hlt
     simp only [this, cond_false]
     rw [z6 (j - bl.length) (by simp; omega)]
     show G4.bb (bl.length + (j - bl.length)) = G4.bb j
     congr 1; omega
   ·trivial
  ·rw [asm, yY] at hl
   obtain ⟨l0, hl0, rfl⟩ := List.mem_map.1 hl
   rcases akv obs ors l0 (hf.refs l0 hl0) with ⟨j, hj, rfl⟩ | ⟨j, hj, rfl⟩ | ⟨j, i, rfl⟩
   ·exact y6 j hj
   ·simp only [ait]
    by_cases hlt : j < bl.length
    ·have : Nat.blt j bl.length = true := Nat.ble_eq_true_of_le hlt
     simp only [this, cond_true]
     have hg : bl.getD j 0 = bl[j] := by simp [List.getD_eq_getElem?_getD, List.getElem?_eq_getElem hlt]
     rw [hg]
     exact (y5 _ (z7 _ (hbl1 j _ (List.getElem?_eq_getElem hlt)))).1
    ·have : Nat.blt j bl.length = false := by
      cases hb : Nat.blt j bl.length
      ·rfl
      ·exact absurd (Nat.le_of_ble_eq_true hb) hlt
     simp only [this, cond_false]
     exact (y5 _ (z8 (j - bl.length) (by simp; omega))).1
   ·exact absurd hl0 (zM _ _ _)
end
end PX
set_option linter.unusedVariables false
set_option linter.unusedSimpArgs false
namespace PX
open Go
section
variable {P : Program} {E : Env} {Γ : Fun} {X : Ctx} {G : Gh} {st : Sto} {a : Act} {w : World} {tr : Tr} {po : PO}
theorem aqH (hG : ad2 P E Γ) (R : Rel X G st a w) {args : List AV} {vs : List Value} (hA : AVRs G w args vs) (hreg : ∀ l ∈ AV.refsL args, st l ≠ .none) {d : Nat} {f : FuncId} (h : prE Γ (amq E d f args) st tr = some po) :
  (∃ x, E.tm f = some x) ∧ Calls P f ⟨vs⟩ w (arp X a po) := by
 unfold amq at h
 split at h
 ·exact (bX h).elim
 ·rename_i ss tbs htm
  refine ⟨⟨_, htm⟩, ?_⟩
  have hA0 := hA
  replace hA := air (E := E) (f := f) hA
  have none : ∀ {G : Gh} {as : List AV}, AVRs G w as vs → AVRs (G.kL fun _ => False) w as vs := fun {G as} h => AVRs.mono (G := G) (G' := G.kL fun _ => False) (fun _ h => .inl h) (fun _ _ => rfl) h (fun l _ => by cases l <;> simp [kX, Gh.kL])
  split at h
  ·obtain ⟨G1, st1, as1, tr1, R1, h1, h2⟩ := aqK R hA0 hreg h
   obtain ⟨G2, st2, as2, tr2, R2, _, h3, h4⟩ := agx R1 (air (E := E) (f := f) h1) h2
   exact ahp hG R2 (none h3) htm (acB (by simp)) (fun _ h => h.elim) (.inl fun _ h => h) h4
  ·split at h
   ·obtain ⟨G1, st1, as', tr1, R1, g1, s1, h1, _, h2⟩ := ahY R hA h
    exact ahp hG R1 (none h1) htm (by simp) (fun _ h => h.elim) (.inl fun _ h => h) h2
   ·rename_i hc
    simp only [Bool.or_eq_true, not_or, Bool.not_eq_true] at hc
    obtain ⟨as', tr1, h1, _, h2⟩ := ako R hA h
    refine ahp hG R (F1 := fun k => ∃ r, blk G st (.rw r) = some k) h1 htm (by simp) (fun k ⟨r, hr⟩ => ⟨r, by simp, hr⟩) (.inr ⟨hc.1.1, fun b hb => ?_⟩) h2
    have := List.any_eq_false.1 hc.1.2 b hb
    simpa using this
theorem aqx {f : FuncId} {fn : Func} (hf : P.funcs[f]? = some fn) (hname : (fn.name == "runtime.NumGoroutine") = false) (hb : fn.body.isNone = false) (args : Array Value) :
  (callFunc f args).run P w = .ok (.enter f args) w := by
 have h1 : fn.name ≠ "runtime.NumGoroutine" := by simpa using hname
 obtain ⟨c, hc⟩ : ∃ c, fn.body = some c := by
  cases h : fn.body with
  | none => rw [h] at hb; simp at hb
  | some c => exact ⟨c, rfl⟩
 simp [callFunc, hf, h1, hc]
theorem aw8 {p : Prim} {as : List AV} {vs : List Value} {tr : Tr} (h : AVRs G w as vs) (hp : prE Γ (alK p as) st tr = some po) :
  ∃ u, (p.ext ⟨vs⟩).run P w = .ok u w ∧ ∃ av, po = .val av st tr ∧ AVR G w av u ∧ av.refs = [] := by
 unfold alK at hp
 split at hp
 ·cases h with
  | cons _ v1 _ _ h1 hs => cases hs with
   | cons _ v2 _ _ h2 hs => cases hs with
    | nil =>
     rw [h1.qT, h2.nR]
     exact ⟨_, by simp only [Prim.ext]; exact Lib.run_indexByteString _ _ w, _, iQ hp, .mkInt .i64 _, rfl⟩
 ·cases h with
  | cons _ v1 _ _ h1 hs => cases hs with
   | cons _ v2 _ _ h2 hs => cases hs with
    | nil =>
     rw [h1.qT, h2.nR]
     exact ⟨_, by simp only [Prim.ext]; exact Lib.run_countString _ _ w, _, iQ hp, .mkInt .i64 _, rfl⟩
 ·cases h with
  | cons _ v1 _ _ h1 hs => cases hs with
   | cons _ v2 _ _ h2 hs => cases hs with
    | nil =>
     rw [h1.qT, h2.qT]
     exact ⟨_, by simp only [Prim.ext]; exact Lib.run_compareString _ _ w, _, iQ hp, .mkInt .i64 _, rfl⟩
 ·exact (bX hp).elim
theorem awu (EO : fS P E) (hG : ad2 P E Γ) {dst g args ts ty pos af gd} : OpS P E Γ ⟨dst, .call ⟨.value g, args, ts⟩, ty, pos, af, gd⟩ := by
 intro X G st a w tr po next Q h R hd _ hk hp
 obtain ⟨v1, tr1, h1, hr1, h2⟩ := eP R (show prE Γ (ev g fun
   | .fn g first captured => evs args.toList fun as => match E.prim g with
    | some p => if first.isEmpty && captured.isEmpty then alK p as else .fail
    | none => amq E (dst.getD 9999) g (first ++ as ++ captured)
   | _ => .fail) st tr = some po from h)
 generalize hug : a.eval g = ug at h1
 cases h1 <;> simp only at h2 <;> first | exact (bX h2).elim | skip
 case fn f fi ca vf vc hf hc =>
  obtain ⟨as, tr2, h3, hreg, h4⟩ := agz R h2
  have e1 : (⟨vf⟩ : Array Value) ++ args.map a.eval ++ ⟨vc⟩ = ⟨vf ++ args.toList.map a.eval ++ vc⟩ := by apply Array.ext'; simp
  split at h4
  ·rename_i p hp'
   split at h4
   ·rename_i hemp
    simp only [Bool.and_eq_true] at hemp
    have hf0 : fi = [] := by simpa using hemp.1
    have hc0 : ca = [] := by simpa using hemp.2
    subst hf0; subst hc0
    cases hf; cases hc
    obtain ⟨u, hrun, hval⟩ := aw8 h3 h4
    obtain ⟨av, rfl, hav, hr⟩ := hval
    obtain ⟨fn, q1, q2, q3, q4, q5⟩ := EO.prim f p hp'
    refine kE (o := ⟨dst, .call ⟨.value g, args, ts⟩, ty, pos, af, gd⟩) (u := u) (w' := w) ?_ (hk _ _ _ rfl _ _ _ (R.putDst hd hav (by rw [hr]; simp)))
    simp only [execOp, resolve, hug, Deferred.ofValue, Sem.run_bind, Sem.run_pure, Result.andThen_ok, invoke]
    rw [e1, run_callFunc_extern q1 q2 q3 q4 q5]
    simp only [List.nil_append, List.append_nil]
    rw [hrun]; rfl
   ·exact (bX h4).elim
  obtain ⟨⟨x, hx⟩, hcall⟩ := aqH hG R ((hf.append h3).append hc) (fun l hl => by
   rw [aeh, aeh, List.mem_append, List.mem_append] at hl
   rcases hl with (hl | hl) | hl
   ·exact hr1 l (by simp [AV.refs, hl])
   ·exact hreg l hl
   ·exact hr1 l (by simp [AV.refs, hl])) h4
  obtain ⟨fn, hfn, hname, hbody⟩ := EO.tm f x hx
  have hrun : (execOp a.eval ⟨dst, .call ⟨.value g, args, ts⟩, ty, pos, af, gd⟩).run P w = .ok (.enter f ⟨vf ++ args.toList.map a.eval ++ vc⟩) w := by
   have e1 : (⟨vf⟩ : Array Value) ++ args.map a.eval ++ ⟨vc⟩ = ⟨vf ++ args.toList.map a.eval ++ vc⟩ := by apply Array.ext'; simp
   simp only [execOp, resolve, hug, Deferred.ofValue, Sem.run_bind, Sem.run_pure, Result.andThen_ok, invoke]
   rw [e1]
   exact aqx hfn hname hbody _
  unfold Oper.wp
  rw [hrun, Oper.upon_enter]
  refine Calls.mono hcall (fun e w' he => ?_)
  cases e with
  | returned v =>
   obtain ⟨av, S, tr', G', rfl, R', hv, hr⟩ := he
   exact hk _ _ _ rfl _ _ _ (R'.putDst hd hv hr)
  | panicked chain =>
   obtain ⟨v, rfl, hpan⟩ := he
   exact hp v rfl chain w' hpan
  | outgrown => exact he.elim
end
end PX
set_option linter.unusedVariables false
set_option linter.unusedSimpArgs false
namespace PX
open Go
section
variable {P : Program} {E : Env} {Γ : Fun}
theorem pG {o : Oper} (h : vR E o = .fail) : OpS P E Γ o := by
 intro X G st a w tr po next Q hp
 rw [h] at hp; simp [prE] at hp
theorem ax1 (EO : fS P E) (hG : ad2 P E Γ) : aiE P E Γ := by
 intro nt o hok
 obtain ⟨dst, op, ty, pos, af, g⟩ := o
 cases op
 case move x => exact au1
 case assign x => exact arI
 case pick c x y => exact avg
 case alloc t =>
  refine atY EO ?_
  rintro rfl
  simp [agU] at hok
 case box t x => exact ayt EO
 case build t ps => exact auM EO
 case buildSlice t n ps => exact amZ EO
 case load t x => exact avI EO
 case store t x y => exact auk EO
 case nilCheck x => exact aqs
 case binOp op t x y yt => exact auV EO
 case unOp op t x => exact au9
 case convert s t x => exact aqZ EO
 case makeInterface t x => exact aka EO
 case makeSlice t l c => exact aoq EO
 case slice t x lo hi mx => exact auF EO
 case fieldAddr t x f => exact aoo EO
 case field t x f => exact auQ EO
 case indexAddr t x i => exact aot EO
 case index t x i => exact auu EO
 case extract x i => exact are
 case panic x => exact att
 case range t x => exact auA EO
 case next x b =>
  cases b
  ·exact pG rfl
  ·exact awL
 case makeFunc fn fi ca =>
  cases fn
  case func f => exact aqB
  all_goals exact pG rfl
 case call c =>
  obtain ⟨callee, ⟨args⟩, ⟨ts⟩⟩ := c
  cases callee
  case value f => exact awu EO hG
  case builtin b =>
   cases b
   case len =>
    rcases args with _ | ⟨x, _ | ⟨y, args⟩⟩ <;> first | exact pG rfl | skip
    rcases ts with _ | ⟨t, ts⟩
    ·exact pG rfl
    ·exact ayv EO
   case append =>
    rcases args with _ | ⟨x, _ | ⟨y, _ | ⟨z, args⟩⟩⟩ <;> first | exact pG rfl | skip
    rcases ts with _ | ⟨t, _ | ⟨u, _ | ⟨v, ts⟩⟩⟩ <;> first | exact pG rfl | skip
    exact asn EO
   case copy =>
    rcases args with _ | ⟨x, _ | ⟨y, _ | ⟨z, args⟩⟩⟩ <;> first | exact pG rfl | skip
    rcases ts with _ | ⟨t, ts⟩
    ·exact pG rfl
    ·exact awN EO
   case clear =>
    rcases args with _ | ⟨x, _ | ⟨y, args⟩⟩ <;> first | exact pG rfl | skip
    rcases ts with _ | ⟨t, _ | ⟨u, ts⟩⟩ <;> first | exact pG rfl | skip
    exact atH EO
   case min => exact amh false
   case max => exact amh true
   all_goals exact pG rfl
  all_goals exact pG rfl
 all_goals exact pG rfl
theorem akw (EO : fS P E) (LO : ad0 P E) : ∀ n, ad2 P E (uK E n)
 | 0 => fun f args bs rs out h => by simp [uK] at h
 | n + 1 => by
  have ih := akw EO LO n
  have hops := ax1 EO ih
  have hd := ati EO hops
  intro f args bs rs out h
  rw [uK] at h
  split at h
  ·rename_i k hk
   exact LO f k hk args bs rs out h
  ·exact asx EO hops (ara EO hops hd akp n) hd f args bs rs out h
end
end PX
set_option linter.unusedVariables false
set_option linter.unusedSimpArgs false
namespace PX
open Go
def FLe (Γ Γ' : Fun) : Prop := ∀ f a b r o, Γ f a b r = some o → Γ' f a b r = some o
def KLe (K K' : Ex → Sto → Res) : Prop := ∀ e st o, K e st = some o → K' e st = some o
abbrev Lam := Code → Sto → (Ex → Sto → Res) → Res
def LLe (Λ Λ' : Lam) : Prop := ∀ b st K K' o, KLe K K' → Λ b st K = some o → Λ' b st K' = some o
theorem ahz {Γ Γ' : Fun} (h : FLe Γ Γ') : ∀ (p : Pr) (st : Sto) (tr : Tr) (po : PO), prE Γ p st tr = some po → prE Γ' p st tr = some po := by
 intro p
 induction p with
 | done v => intro st tr po hp; exact hp
 | fail => intro st tr po hp; exact hp
 | pan v => intro st tr po hp; exact hp
 | get l q ih => intro st tr po hp; simp only [prE] at hp ⊢; exact ih _ _ _ _ hp
 | put l v q ih => intro st tr po hp; simp only [prE] at hp ⊢; exact ih _ _ _ hp
 | chk b q ih => intro st tr po hp; cases b <;> simp only [prE] at hp ⊢ <;> first | exact ih _ _ _ hp | cases hp
 | ite b q r ihq ihr => intro st tr po hp; cases b <;> simp only [prE] at hp ⊢ <;> first | exact ihq _ _ _ hp | exact ihr _ _ _ hp
 | call f as bs rs q ih =>
  intro st tr po hp
  simp only [prE] at hp ⊢
  split at hp
  ·rename_i o ho
   rw [h _ _ _ _ _ ho]
   exact ih _ _ _ _ hp
  ·cases hp
theorem aao {E : Env} {Γ Γ' : Fun} (h : FLe Γ Γ') {ops : Array Oper} {k k' : Sto → List Tr → Res} {kp kp' : AV → Res} (hk : ∀ s t o, k s t = some o → k' s t = some o) (hp : ∀ v o, kp v = some o → kp' v = some o) :
  ∀ (l : List Oper) (st : Sto) (ts : List Tr) (o : Out), fH E Γ ops l st ts k kp = some o → fH E Γ' ops l st ts k' kp' = some o
 | [], st, ts, o, hr => hk _ _ _ hr
 | q :: r, st, ts, o, hr => by
  have go : ∀ (st : Sto) (tr : Tr), mE Γ (vR E q) st tr (fun v st' tr => fH E Γ ops r (putDst st' q.dst v) (j3 tr q.dst :: ts) k kp) kp = some o →
    mE Γ' (vR E q) st tr (fun v st' tr => fH E Γ' ops r (putDst st' q.dst v) (j3 tr q.dst :: ts) k' kp') kp' = some o := by
   intro st tr hh
   rw [ab0] at hh ⊢
   obtain ⟨po, h1, h2⟩ := Option.bind_eq_some_iff.1 hh
   rw [ahz h _ _ _ _ h1]
   cases po with
   | val v st' tr' => exact aao h hk hp r _ _ _ h2
   | pan v => exact hp _ _ h2
  unfold fH at hr ⊢
  split at hr
  ·exact go _ _ hr
  ·split at hr
   ·cases hr
   ·split at hr
    ·rename_i b hb
     cases b <;> simp only at hr ⊢ <;> split at hr <;> rename_i hw <;> simp only [hw, if_true, if_false, Bool.false_eq_true] <;> first | exact go _ _ hr | exact aao h hk hp r _ _ _ hr
    ·exact aao h hk hp r _ _ _ hr
    ·cases hr
theorem ahb (x : Res) : adj x x = x := by unfold adj; simp
theorem vU {E : Env} {Γ Γ' : Fun} {Λ Λ' : Lam} {hr : Nat → Option Hint} (hG : FLe Γ Γ') (hL : LLe Λ Λ') : ∀ (c : Code) (st : Sto) (K K' : Ex → Sto → Res) (o : Out), KLe K K' → exec E Γ Λ hr c st K = some o → exec E Γ' Λ' hr c st K' = some o := by
 intro c
 induction c with
 | skip => intro st K K' o hK h; simp only [exec] at h ⊢; exact hK _ _ _ h
 | label l => intro st K K' o hK h; simp only [exec] at h ⊢; exact hK _ _ _ h
 | exit i => intro st K K' o hK h; simp only [exec] at h ⊢; exact hK _ _ _ h
 | ret => intro st K K' o hK h; simp only [exec] at h ⊢; exact hK _ _ _ h
 | region id ops draw =>
  intro st K K' o hK h
  have go : ∀ (st : Sto), fH E Γ ops ops.toList st [] (fun st' ts =>
   if draw then (if xA ops && qU (Region.before ops) ts then K .normal st' else none) else K .normal st') (fun v => if draw then none else K (.pan v) st) = some o →
   fH E Γ' ops ops.toList st [] (fun st' ts =>
   if draw then (if xA ops && qU (Region.before ops) ts then K' .normal st' else none) else K' .normal st') (fun v => if draw then none else K' (.pan v) st) = some o := by
   intro st hh
   refine aao hG (fun s t o' h' => ?_) (fun v o' h' => ?_) _ _ _ _ hh
   ·cases draw
    ·simp only [Bool.false_eq_true, if_false] at h' ⊢; exact hK _ _ _ h'
    ·simp only [if_true] at h' ⊢
     split at h'
     ·rename_i hc; rw [if_pos hc]; exact hK _ _ _ h'
     ·cases h'
   ·cases draw
    ·simp only [Bool.false_eq_true, if_false] at h' ⊢; exact hK _ _ _ h'
    ·simp at h'
  unfold exec at h ⊢
  simp only at h ⊢
  split at h
  ·obtain ⟨st', h1, h2⟩ := Option.bind_eq_some_iff.1 h
   rw [h1]; exact go _ h2
  ·exact go _ h
 | seq x y ihx ihy =>
  intro st K K' o hK h
  simp only [exec] at h ⊢
  refine ihx st _ _ o (fun e s o' h' => ?_) h
  cases e <;> simp only at h' ⊢ <;> first | exact ihy _ _ _ _ hK h' | exact hK _ _ _ h'
 | cond c x y ihx ihy =>
  intro st K K' o hK h
  unfold exec at h ⊢
  split at h
  ·split at h
   ·rename_i b hb
    cases b <;> simp only at h ⊢ <;> first | exact ihx _ _ _ _ hK h | exact ihy _ _ _ _ hK h
   ·obtain ⟨h1, h2⟩ := ajE h
    rw [ihx _ _ _ _ hK h1, ihy _ _ _ _ hK h2]
    exact ahb _
   ·cases h
  ·rename_i b
   cases b <;> simp only at h ⊢ <;> first | exact ihx _ _ _ _ hK h | exact ihy _ _ _ _ hK h
  ·cases h
 | block id b ih =>
  intro st K K' o hK h
  simp only [exec] at h ⊢
  refine ih st _ _ o (fun e s o' h' => ?_) h
  cases e <;> simp only at h' ⊢ <;> first | (split at h' <;> rename_i hc <;> simp only [hc, if_true, if_false, Bool.false_eq_true] <;> exact hK _ _ _ h') | exact hK _ _ _ h'
 | loop b ih => intro st K K' o hK h; simp only [exec] at h ⊢; exact hL _ _ _ _ _ hK h
 | scope b ih => intro st K K' o hK h; simp only [exec] at h ⊢; exact ih _ _ _ _ hK h
 | _ => intro st K K' o hK h; simp [exec] at h
theorem nX {E : Env} {Γ Γ' : Fun} (hG : FLe Γ Γ') {hl hr : Nat → Option Hint} : ∀ n, LLe (eH E Γ hl hr n) (eH E Γ' hl hr (n + 1))
 | 0 => fun b st K K' o hK h => by simp [eH] at h
 | n + 1 => by
  intro b st K K' o hK h
  have ih := nX (E := E) hG (hl := hl) (hr := hr) n
  rw [eH] at h ⊢
  split at h
  ·cases h
  ·obtain ⟨st', h1, h2⟩ := Option.bind_eq_some_iff.1 h
   rw [h1]
   refine vU hG ih b st' _ _ o (fun e s o' h' => ?_) h2
   cases e <;> simp only [oD] at h' ⊢ <;> first | exact ih _ _ _ _ _ hK h' | exact hK _ _ _ h'
theorem an2 {E : Env} {Γ Γ' : Fun} {Λ Λ' : Lam} (hG : FLe Γ Γ') (hL : LLe Λ Λ') : FLe (body E Γ Λ) (body E Γ' Λ') := by
 intro f a b r o h
 unfold body at h ⊢
 split at h
 ·cases h
 ·split at h
  ·cases h
  ·split at h
   ·cases h
   ·split at h
    ·cases h
    ·rename_i hc
     simp only [hc, if_false, Bool.false_eq_true]
     exact vU hG hL _ _ _ _ o (fun _ _ _ h => h) h
theorem zF {E : Env} : ∀ n, FLe (uK E n) (uK E (n + 1))
 | 0 => fun f a b r o h => by simp [uK] at h
 | n + 1 => by
  have ih := zF (E := E) n
  intro f a b r o h
  rw [uK] at h ⊢
  split at h
  ·exact h
  ·exact an2 ih (nX ih n) f a b r o h
end PX
set_option linter.unusedVariables false
set_option linter.unusedSimpArgs false
namespace PX
open Go
structure aIm {α : Type} (le : α → α → Prop) (x : Nat → α) : Prop where
 step : ∀ n, le (x n) (x (n + 1))
theorem FLe.refl (Γ : Fun) : FLe Γ Γ := fun _ _ _ _ _ h => h
theorem FLe.trans {a b c : Fun} (h : FLe a b) (k : FLe b c) : FLe a c := fun f x y z o ho => k _ _ _ _ _ (h _ _ _ _ _ ho)
theorem FLe.of {x : Nat → Fun} (h : ∀ n, FLe (x n) (x (n + 1))) {n m : Nat} (hnm : n ≤ m) : FLe (x n) (x m) := by
 induction hnm with
 | refl => exact .refl _
 | step _ ih => exact ih.trans (h _)
theorem KLe.refl (K : Ex → Sto → Res) : KLe K K := fun _ _ _ h => h
theorem KLe.trans {a b c : Ex → Sto → Res} (h : KLe a b) (k : KLe b c) : KLe a c := fun e s o ho => k _ _ _ (h _ _ _ ho)
theorem KLe.of {x : Nat → Ex → Sto → Res} (h : ∀ n, KLe (x n) (x (n + 1))) {n m : Nat} (hnm : n ≤ m) : KLe (x n) (x m) := by
 induction hnm with
 | refl => exact .refl _
 | step _ ih => exact ih.trans (h _)
def apx (Γn : Nat → Fun) (Γ : Fun) : Prop := ∀ f a b r o, Γ f a b r = some o → ∃ n, Γn n f a b r = some o
def aw4 (Kn : Nat → Ex → Sto → Res) (K : Ex → Sto → Res) : Prop := ∀ e st o, K e st = some o → ∃ n, Kn n e st = some o
theorem av5 {Γn : Nat → Fun} {Γ : Fun} (hm : ∀ n, FLe (Γn n) (Γn (n + 1))) (hl : apx Γn Γ) : ∀ (p : Pr) (st : Sto) (tr : Tr) (po : PO), prE Γ p st tr = some po → ∃ n, prE (Γn n) p st tr = some po := by
 intro p
 induction p with
 | done v => intro st tr po hp; exact ⟨0, hp⟩
 | fail => intro st tr po hp; exact ⟨0, hp⟩
 | pan v => intro st tr po hp; exact ⟨0, hp⟩
 | get l q ih => intro st tr po hp; simp only [prE] at hp ⊢; exact ih _ _ _ _ hp
 | put l v q ih => intro st tr po hp; simp only [prE] at hp ⊢; exact ih _ _ _ hp
 | chk b q ih => intro st tr po hp; cases b <;> simp only [prE] at hp ⊢ <;> first | exact ih _ _ _ hp | cases hp
 | ite b q r ihq ihr => intro st tr po hp; cases b <;> simp only [prE] at hp ⊢ <;> first | exact ihq _ _ _ hp | exact ihr _ _ _ hp
 | call f as bs rs q ih =>
  intro st tr po hp
  simp only [prE] at hp
  split at hp
  ·rename_i o ho
   obtain ⟨n, hn⟩ := hl _ _ _ _ _ ho
   obtain ⟨m, hmm⟩ := ih _ _ _ _ hp
   refine ⟨max n m, ?_⟩
   simp only [prE]
   rw [FLe.of hm (Nat.le_max_left n m) _ _ _ _ _ hn]
   exact ahz (FLe.of hm (Nat.le_max_right n m)) _ _ _ _ hmm
  ·cases hp
section
variable {E : Env} {Γn : Nat → Fun} {Γ : Fun}
theorem acH (hm : ∀ n, FLe (Γn n) (Γn (n + 1))) (hl : apx Γn Γ) {ops : Array Oper} {k : Sto → List Tr → Res} {kp : AV → Res} {kn : Nat → Sto → List Tr → Res} {kpn : Nat → AV → Res}
  (hkm : ∀ n s t o, kn n s t = some o → kn (n + 1) s t = some o) (hkl : ∀ s t o, k s t = some o → ∃ n, kn n s t = some o)
  (hpm : ∀ n v o, kpn n v = some o → kpn (n + 1) v = some o) (hpl : ∀ v o, kp v = some o → ∃ n, kpn n v = some o) :
  ∀ (l : List Oper) (st : Sto) (ts : List Tr) (o : Out), fH E Γ ops l st ts k kp = some o → ∃ n, fH E (Γn n) ops l st ts (kn n) (kpn n) = some o
 | [], st, ts, o, hr => hkl _ _ _ hr
 | q :: r, st, ts, o, hr => by
  have kup : ∀ {n m : Nat}, n ≤ m → ∀ s t o, kn n s t = some o → kn m s t = some o := by
   intro n m h
   induction h with
   | refl => exact fun _ _ _ h => h
   | step _ ih => exact fun s t o h => hkm _ _ _ _ (ih s t o h)
  have pup : ∀ {n m : Nat}, n ≤ m → ∀ v o, kpn n v = some o → kpn m v = some o := by
   intro n m h
   induction h with
   | refl => exact fun _ _ h => h
   | step _ ih => exact fun v o h => hpm _ _ _ (ih v o h)
  have go : ∀ (st : Sto) (tr : Tr), mE Γ (vR E q) st tr (fun v st' tr => fH E Γ ops r (putDst st' q.dst v) (j3 tr q.dst :: ts) k kp) kp = some o →
    ∃ n, mE (Γn n) (vR E q) st tr (fun v st' tr => fH E (Γn n) ops r (putDst st' q.dst v) (j3 tr q.dst :: ts) (kn n) (kpn n)) (kpn n) = some o := by
   intro st tr hh
   rw [ab0] at hh
   obtain ⟨po, h1, h2⟩ := Option.bind_eq_some_iff.1 hh
   obtain ⟨n, hn⟩ := av5 hm hl _ _ _ _ h1
   cases po with
   | val v st' tr' =>
    obtain ⟨m, hmm⟩ := acH hm hl hkm hkl hpm hpl r _ _ _ h2
    refine ⟨max n m, ?_⟩
    rw [ab0, ahz (FLe.of hm (Nat.le_max_left n m)) _ _ _ _ hn]
    exact aao (FLe.of hm (Nat.le_max_right n m)) (kup (Nat.le_max_right n m)) (pup (Nat.le_max_right n m)) _ _ _ _ hmm
   | pan v =>
    obtain ⟨m, hmm⟩ := hpl _ _ h2
    refine ⟨max n m, ?_⟩
    rw [ab0, ahz (FLe.of hm (Nat.le_max_left n m)) _ _ _ _ hn]
    exact pup (Nat.le_max_right n m) _ _ hmm
  unfold fH at hr ⊢
  split at hr
  ·rename_i hg
   obtain ⟨n, hn⟩ := go _ _ hr
   exact ⟨n, hn⟩
  ·split at hr
   ·cases hr
   ·split at hr
    ·rename_i b hb
     cases b <;> simp only at hr ⊢ <;> split at hr <;> rename_i hw <;> simp only [hw, if_true, if_false, Bool.false_eq_true] <;> first | exact go _ _ hr | exact acH hm hl hkm hkl hpm hpl r _ _ _ hr
    ·exact acH hm hl hkm hkl hpm hpl r _ _ _ hr
    ·cases hr
theorem aeZ (hm : ∀ n, FLe (Γn n) (Γn (n + 1))) (hl : apx Γn Γ) {Λn : Nat → Lam} {Λ : Lam} (hLm : ∀ n, LLe (Λn n) (Λn (n + 1)))
  (hLl : ∀ b st K (Kn : Nat → Ex → Sto → Res) o, (∀ n, KLe (Kn n) (Kn (n + 1))) → aw4 Kn K → Λ b st K = some o → ∃ n, Λn n b st (Kn n) = some o) {hr : Nat → Option Hint} :
  ∀ (c : Code) (st : Sto) (K : Ex → Sto → Res) (Kn : Nat → Ex → Sto → Res) (o : Out), (∀ n, KLe (Kn n) (Kn (n + 1))) → aw4 Kn K → exec E Γ Λ hr c st K = some o → ∃ n, exec E (Γn n) (Λn n) hr c st (Kn n) = some o := by
 intro c
 induction c with
 | skip => intro st K Kn o hKm hKl h; simp only [exec] at h ⊢; exact hKl _ _ _ h
 | label l => intro st K Kn o hKm hKl h; simp only [exec] at h ⊢; exact hKl _ _ _ h
 | exit i => intro st K Kn o hKm hKl h; simp only [exec] at h ⊢; exact hKl _ _ _ h
 | ret => intro st K Kn o hKm hKl h; simp only [exec] at h ⊢; exact hKl _ _ _ h
 | region id ops draw =>
  intro st K Kn o hKm hKl h
  have go : ∀ (st : Sto), fH E Γ ops ops.toList st [] (fun st' ts =>
   if draw then (if xA ops && qU (Region.before ops) ts then K .normal st' else none) else K .normal st') (fun v => if draw then none else K (.pan v) st) = some o →
   ∃ n, fH E (Γn n) ops ops.toList st [] (fun st' ts =>
   if draw then (if xA ops && qU (Region.before ops) ts then Kn n .normal st' else none) else Kn n .normal st') (fun v => if draw then none else Kn n (.pan v) st) = some o := by
   intro st hh
   refine acH hm hl (kn := fun n st' ts => if draw then (if xA ops && qU (Region.before ops) ts then Kn n .normal st' else none) else Kn n .normal st') (kpn := fun n v => if draw then none else Kn n (.pan v) st)
    (fun n s t o' h' => ?_) (fun s t o' h' => ?_) (fun n v o' h' => ?_) (fun v o' h' => ?_) _ _ _ _ hh
   ·cases draw
    ·simp only [Bool.false_eq_true, if_false] at h' ⊢; exact hKm _ _ _ _ h'
    ·simp only [if_true] at h' ⊢
     split at h'
     ·rename_i hc; rw [if_pos hc]; exact hKm _ _ _ _ h'
     ·cases h'
   ·cases draw
    ·simp only [Bool.false_eq_true, if_false] at h' ⊢; exact hKl _ _ _ h'
    ·simp only [if_true] at h' ⊢
     split at h'
     ·rename_i hc; simp only [if_pos hc]; exact hKl _ _ _ h'
     ·cases h'
   ·cases draw
    ·simp only [Bool.false_eq_true, if_false] at h' ⊢; exact hKm _ _ _ _ h'
    ·simp at h'
   ·cases draw
    ·simp only [Bool.false_eq_true, if_false] at h' ⊢; exact hKl _ _ _ h'
    ·simp at h'
  unfold exec at h ⊢
  simp only at h ⊢
  split at h
  ·obtain ⟨st', h1, h2⟩ := Option.bind_eq_some_iff.1 h
   simp only [h1, Option.bind_some]; exact go _ h2
  ·exact go _ h
 | seq x y ihx ihy =>
  intro st K Kn o hKm hKl h
  simp only [exec] at h ⊢
  refine ihx st _ (fun n e st' => match e with | .normal => exec E (Γn n) (Λn n) hr y st' (Kn n) | e => Kn n e st') o (fun n e s o' h' => ?_) (fun e s o' h' => ?_) h
  ·cases e <;> simp only at h' ⊢ <;> first | exact vU (hm n) (hLm n) _ _ _ _ _ (hKm n) h' | exact hKm n _ _ _ h'
  ·cases e <;> simp only at h' ⊢ <;> first | exact ihy _ _ _ _ hKm hKl h' | exact hKl _ _ _ h'
 | cond c x y ihx ihy =>
  intro st K Kn o hKm hKl h
  unfold exec at h ⊢
  split at h
  ·split at h
   ·rename_i b hb
    cases b <;> simp only at h ⊢ <;> first | exact ihx _ _ _ _ hKm hKl h | exact ihy _ _ _ _ hKm hKl h
   ·obtain ⟨h1, h2⟩ := ajE h
    obtain ⟨n1, c1⟩ := ihx _ _ _ _ hKm hKl h1
    obtain ⟨n2, c2⟩ := ihy _ _ _ _ hKm hKl h2
    have lup : ∀ {a b : Nat}, a < b → LLe (Λn a) (Λn b) := by
     intro a b hab
     induction hab with
     | refl => exact hLm a
     | step _ ih => exact fun b st K K' o hK h => hLm _ _ _ _ _ _ (KLe.refl _) (ih _ _ _ _ _ hK h)
    refine ⟨max n1 n2 + 1, ?_⟩
    have d1 := vU (FLe.of hm (show n1 ≤ max n1 n2 + 1 by omega)) (lup (show n1 < max n1 n2 + 1 by omega)) _ _ _ _ _ (KLe.of hKm (show n1 ≤ max n1 n2 + 1 by omega)) c1
    have d2 := vU (FLe.of hm (show n2 ≤ max n1 n2 + 1 by omega)) (lup (show n2 < max n1 n2 + 1 by omega)) _ _ _ _ _ (KLe.of hKm (show n2 ≤ max n1 n2 + 1 by omega)) c2
    rw [d1, d2]
    exact ahb _
   ·cases h
  ·rename_i b
   cases b <;> simp only at h ⊢ <;> first | exact ihx _ _ _ _ hKm hKl h | exact ihy _ _ _ _ hKm hKl h
  ·cases h
 | block id b ih =>
  intro st K Kn o hKm hKl h
  simp only [exec] at h ⊢
  refine ih st _ (fun n e st' => match e with | .exit i => if Nat.beq i id then Kn n .normal st' else Kn n (.exit i) st' | e => Kn n e st') o (fun n e s o' h' => ?_) (fun e s o' h' => ?_) h
  ·cases e <;> simp only at h' ⊢ <;> first | (split at h' <;> rename_i hc <;> simp only [hc, if_true, if_false, Bool.false_eq_true] <;> exact hKm n _ _ _ h') | exact hKm n _ _ _ h'
  ·cases e <;> simp only at h' ⊢ <;> first | (split at h' <;> rename_i hc <;> simp only [hc, if_true, if_false, Bool.false_eq_true] <;> exact hKl _ _ _ h') | exact hKl _ _ _ h'
 | loop b ih => intro st K Kn o hKm hKl h; simp only [exec] at h ⊢; exact hLl _ _ _ _ _ hKm hKl h
 | scope b ih => intro st K Kn o hKm hKl h; simp only [exec] at h ⊢; exact ih st K Kn o hKm hKl h
 | _ => intro st K Kn o hKm hKl h; simp [exec] at h
end
end PX
set_option linter.unusedVariables false
set_option linter.unusedSimpArgs false
namespace PX
open Go
section
variable {E : Env}
theorem abf {Γn : Nat → Fun} {Γ : Fun} (hm : ∀ n, FLe (Γn n) (Γn (n + 1))) (hl : apx Γn Γ) {h1 h2 : Nat → Option Hint} : ∀ (n : Nat) (b : Code) (st : Sto) (K : Ex → Sto → Res) (Kn : Nat → Ex → Sto → Res) (o : Out),
  (∀ n, KLe (Kn n) (Kn (n + 1))) → aw4 Kn K → eH E Γ h1 h2 n b st K = some o → ∃ m, eH E (Γn m) h1 h2 m b st (Kn m) = some o
 | 0, b, st, K, Kn, o, hKm, hKl, h => by simp [eH] at h
 | n + 1, b, st, K, Kn, o, hKm, hKl, h => by
  rw [eH] at h
  split at h
  ·cases h
  ·rename_i hh hhe
   obtain ⟨st', c1, c2⟩ := Option.bind_eq_some_iff.1 h
   obtain ⟨m, hmm⟩ := aeZ (Λn := fun m => eH E (Γn m) h1 h2 m) (Λ := eH E Γ h1 h2 n) hm hl (fun m => nX (hm m) m) (fun b st K Kn o a1 a2 a3 => abf hm hl n b st K Kn o a1 a2 a3) b st' _
    (fun m => oD (fun st => eH E (Γn m) h1 h2 m b st (Kn m)) (Kn m)) o (fun m e s o' h' => by
     cases e <;> simp only [oD] at h' ⊢ <;> first | exact nX (hm m) m _ _ _ _ _ (hKm m) h' | exact hKm m _ _ _ h') (fun e s o' h' => by
     cases e <;> simp only [oD] at h' ⊢ <;> first | exact abf hm hl n _ _ _ _ _ hKm hKl h' | exact hKl _ _ _ h') c2
   refine ⟨m + 2, nX (FLe.of hm (show m ≤ m + 2 by omega)) (m + 1) b st (Kn m) (Kn (m + 2)) o (KLe.of hKm (by omega)) ?_⟩
   rw [eH, hhe]
   simp only [c1, Option.bind_some]
   exact hmm
open Classical in
noncomputable def bF (E : Env) : Fun := fun f a b r => if h : ∃ o n, uK E n f a b r = some o then some (Classical.choose h) else none
theorem aiM : apx (uK E) (bF E) := by
 intro f a b r o h
 unfold bF at h
 split at h
 ·rename_i hh
  obtain rfl := Option.some.inj h
  exact Classical.choose_spec hh
 ·cases h
theorem aqF {n : Nat} {f a b r o} (h : uK E n f a b r = some o) : bF E f a b r = some o := by
 unfold bF
 have hh : ∃ o n, uK E n f a b r = some o := ⟨o, n, h⟩
 rw [dif_pos hh]
 obtain ⟨m, hm⟩ := Classical.choose_spec hh
 have h1 := FLe.of zF (Nat.le_max_left n m) _ _ _ _ _ h
 have h2 := FLe.of zF (Nat.le_max_right n m) _ _ _ _ _ hm
 rw [h1] at h2
 exact congrArg some (Option.some.inj h2).symm
open Classical in
noncomputable def adt (E : Env) (h1 h2 : Nat → Option Hint) : Lam := fun b st K => if h : ∃ o n, eH E (bF E) h1 h2 n b st K = some o then some (Classical.choose h) else none
theorem ajk {h1 h2} {b st K o} (h : adt E h1 h2 b st K = some o) : ∃ n, eH E (bF E) h1 h2 n b st K = some o := by
 unfold adt at h
 split at h
 ·rename_i hh
  obtain rfl := Option.some.inj h
  exact Classical.choose_spec hh
 ·cases h
theorem ai3 {Γ : Fun} {h1 h2} : ∀ {n : Nat} {b st K K' o}, KLe K K' → eH E Γ h1 h2 n b st K = some o → eH E Γ h1 h2 n b st K' = some o := by
 intro n
 induction n with
 | zero => intro b st K K' o hK h; simp [eH] at h
 | succ n ih =>
  intro b st K K' o hK h
  rw [eH] at h ⊢
  split at h
  ·cases h
  ·obtain ⟨st', c1, c2⟩ := Option.bind_eq_some_iff.1 h
   rw [c1]
   refine vU (Λ := eH E Γ h1 h2 n) (Λ' := eH E Γ h1 h2 n) (FLe.refl _) (fun b st K K' o hK h => ih hK h) b st' _ _ o (fun e s o' h' => ?_) c2
   cases e <;> simp only [oD] at h' ⊢ <;> first | exact ih hK h' | exact hK _ _ _ h'
theorem agW {Γ : Fun} {h1 h2} {n m : Nat} (hnm : n ≤ m) : LLe (eH E Γ h1 h2 n) (eH E Γ h1 h2 m) := by
 induction hnm with
 | refl => intro b st K K' o hK h; exact ai3 hK h
 | step _ ih => intro b st K K' o hK h; exact nX (FLe.refl _) _ _ _ _ _ _ (KLe.refl _) (ih _ _ _ _ _ hK h)
theorem aqk {h1 h2} {n : Nat} {b st K o} (h : eH E (bF E) h1 h2 n b st K = some o) : adt E h1 h2 b st K = some o := by
 unfold adt
 have hh : ∃ o n, eH E (bF E) h1 h2 n b st K = some o := ⟨o, n, h⟩
 rw [dif_pos hh]
 obtain ⟨m, hm⟩ := Classical.choose_spec hh
 have q1 := agW (Nat.le_max_left n m) _ _ _ _ _ (KLe.refl _) h
 have q2 := agW (Nat.le_max_right n m) _ _ _ _ _ (KLe.refl _) hm
 rw [q1] at q2
 exact congrArg some (Option.some.inj q2).symm
theorem arK {f a b r o} (hlib : E.lib f = none) (h : body E (bF E) (adt E (E.hl f) (E.hr f)) f a b r = some o) : bF E f a b r = some o := by
 unfold body at h
 split at h
 ·cases h
 rename_i fn hfn
 split at h
 ·cases h
 rename_i c hc
 split at h
 ·cases h
 rename_i ss tbs htm
 split at h
 ·cases h
 rename_i hok
 obtain ⟨n, hn⟩ := aeZ (E := E) (Γn := uK E) (Λn := fun n => eH E (uK E n) (E.hl f) (E.hr f) n) zF aiM (fun n => nX (zF n) n)
  (fun b st K Kn o a1 a2 a3 => by obtain ⟨n, hn⟩ := ajk a3; exact abf zF aiM n b st K Kn o a1 a2 hn) c _ _ (fun _ => amU (finish E fn ss tbs b.length) (E.pv f)) o (fun _ => KLe.refl _) (fun _ _ _ h => ⟨0, h⟩) h
 refine aqF (n := n + 1) ?_
 rw [uK, hlib]
 simp only
 unfold body
 simp only [hfn, hc, htm, hok, if_false, Bool.false_eq_true]
 exact hn
theorem aoc {f a b r o k} (hlib : E.lib f = some k) (h : acW k a b r = some o) : bF E f a b r = some o :=
 aqF (n := 1) (by rw [uK, hlib]; exact h)
end
theorem aqX {P : Program} {E : Env} (EO : fS P E) (LO : ad0 P E) : ad2 P E (bF E) := by
 intro f a b r o h
 obtain ⟨n, hn⟩ := aiM _ _ _ _ _ h
 exact akw EO LO n f a b r o hn
end PX
set_option linter.unusedVariables false
set_option linter.unusedSimpArgs false
namespace PX
open Go
abbrev aP := FuncId → List AV → List Bx → List Rw → (Out → Res) → Res
def aR (Γ : Fun) : aP := fun f a b r k => (Γ f a b r).bind k
def sU (C : aP) : Pr → Sto → Tr → (AV → Sto → Tr → Res) → (AV → Res) → Res
 | .done v, st, tr, k, _ => k v st tr
 | .fail, _, _, _, _ => none
 | .pan v, _, _, _, kp => kp v
 | .get l p, st, tr, k, kp => sU C (p (st l)) st (l :: tr.1, tr.2) k kp
 | .put l v p, st, tr, k, kp => sU C p (st.upd l v) (tr.1, l :: tr.2) k kp
 | .chk b p, st, tr, k, kp => cond b (sU C p st tr k kp) none
 | .ite b p q, st, tr, k, kp => cond b (sU C p st tr k kp) (sU C q st tr k kp)
 | .call f as bs rs p, st, tr, k, kp => C f as bs rs fun o => sU C (p o) st tr k kp
theorem aq6 (Γ : Fun) : ∀ (p : Pr) (st : Sto) (tr : Tr) (k : AV → Sto → Tr → Res) (kp : AV → Res), sU (aR Γ) p st tr k kp = mE Γ p st tr k kp := by
 intro p
 induction p with
 | done v => intros; rfl
 | fail => intros; rfl
 | pan v => intros; rfl
 | get l q ih => intros; simp only [sU, mE]; exact ih _ _ _ _ _
 | put l v q ih => intros; simp only [sU, mE]; exact ih _ _ _ _
 | chk b q ih => intro st tr k kp; cases b <;> simp only [sU, mE, cond] <;> exact ih _ _ _ _
 | ite b q r ihq ihr => intro st tr k kp; cases b <;> simp only [sU, mE, cond] <;> first | exact ihq _ _ _ _ | exact ihr _ _ _ _
 | call f as bs rs q ih => intro st tr k kp; simp only [sU, mE, aR]; congr 1; funext o; exact ih _ _ _ _ _
def zL (E : Env) (C : aP) (ops : Array Oper) : List Oper → Sto → List Tr → (Sto → List Tr → Res) → (AV → Res) → Res
 | [], st, ts, k, _ => k st ts
 | o :: r, st, ts, k, kp =>
  match o.guard with
  | none => sU C (vR E o) st ([], []) (fun v st' tr => zL E C ops r (putDst st' o.dst v) (j3 tr o.dst :: ts) k kp) kp
  | some (j, want) =>
   match (ops[j]?).bind (·.dst) with
   | none => none
   | some t =>
    match st (.tm t) with
    | .av (.d (.bool b)) =>
     cond b
     (if want then sU C (vR E o) (st.upd (.tm t) (.av (.d (.bool true)))) ([.tm t], []) (fun v st' tr => zL E C ops r (putDst st' o.dst v) (j3 tr o.dst :: ts) k kp) kp
      else zL E C ops r (putDst (st.upd (.tm t) (.av (.d (.bool true)))) o.dst .undf) (j3 ([.tm t], []) o.dst :: ts) k kp)
     (if want then zL E C ops r (putDst (st.upd (.tm t) (.av (.d (.bool false)))) o.dst .undf) (j3 ([.tm t], []) o.dst :: ts) k kp
      else sU C (vR E o) (st.upd (.tm t) (.av (.d (.bool false)))) ([.tm t], []) (fun v st' tr => zL E C ops r (putDst st' o.dst v) (j3 tr o.dst :: ts) k kp) kp)
    | .av .undf => zL E C ops r (putDst st o.dst .undf) (j3 ([.tm t], []) o.dst :: ts) k kp
    | _ => none
theorem ajw {E : Env} (Γ : Fun) {ops : Array Oper} {k : Sto → List Tr → Res} {kp : AV → Res} : ∀ (l : List Oper) (st : Sto) (ts : List Tr),
  zL E (aR Γ) ops l st ts k kp = fH E Γ ops l st ts k kp
 | [], st, ts => rfl
 | q :: r, st, ts => by
  have ih := ajw (E := E) Γ (ops := ops) (k := k) (kp := kp) r
  unfold zL fH
  simp only [aq6, ih]
  cases hq : q.guard with
  | none => rfl
  | some p =>
   obtain ⟨j, want⟩ := p
   simp only
   cases hj : (ops[j]?).bind (·.dst) with
   | none => rfl
   | some t =>
    simp only
    generalize st (.tm t) = x
    split
    ·rename_i b
     cases b <;> rfl
    ·rfl
    ·rename_i h1 h2
     split
     ·exact absurd rfl (h1 _)
     ·exact absurd rfl h2
     ·rfl
def arW (E : Env) (C : aP) (ops : Array Oper) (draw : Bool) (st : Sto) (K : Ex → Sto → Res) : Res :=
 zL E C ops ops.toList st [] (fun st' ts =>
  if draw then (if xA ops && qU (Region.before ops) ts then K .normal st' else none) else K .normal st') (fun v => if draw then none else K (.pan v) st)
def J0 (E : Env) (C : aP) : Lam
 | .region _ ops draw, st, K => arW E C ops draw st K
 | _, _, _ => none
noncomputable def qS (E : Env) (C : aP) (Λ : Lam) (J : Lam) (hr : Nat → Option Hint) : Code → Sto → (Ex → Sto → Res) → Res
 | .skip, st, K => K .normal st
 | .label _, st, K => K .normal st
 | .region id ops draw, st, K =>
  match hr id with
  | some h => (canon h st).bind fun st' => J (.region id ops draw) st' K
  | none => arW E C ops draw st K
 | .seq a b, st, K => qS E C Λ J hr a st fun e st' => match e with | .normal => qS E C Λ J hr b st' K | e => K e st'
 | .cond c t e, st, K =>
  match c with
  | .tmp i => match st (.tm i) with
   | .av (.d (.bool b)) => cond b (qS E C Λ J hr t (st.upd (.tm i) (.av (.d (.bool true)))) K) (qS E C Λ J hr e (st.upd (.tm i) (.av (.d (.bool false)))) K)
   | .av .anyb => adj (qS E C Λ J hr t (st.upd (.tm i) (.av (.d (.bool true)))) K) (qS E C Λ J hr e (st.upd (.tm i) (.av (.d (.bool false)))) K)
   | _ => none
  | .const (.bool b) => match b with
   | true => qS E C Λ J hr t st K
   | false => qS E C Λ J hr e st K
  | _ => none
 | .block id b, st, K => qS E C Λ J hr b st fun e st' => match e with
  | .exit i => if Nat.beq i id then K .normal st' else K (.exit i) st'
  | e => K e st'
 | .loop b, st, K => Λ b st K
 | .scope b, st, K => qS E C Λ J hr b st K
 | .exit id, st, K => K (.exit id) st
 | .ret, st, K => K .ret st
 | _, _, _ => none
theorem al3 {E : Env} (Γ : Fun) (Λ : Lam) (hr : Nat → Option Hint) : ∀ (c : Code) (st : Sto) (K : Ex → Sto → Res), qS E (aR Γ) Λ (J0 E (aR Γ)) hr c st K = exec E Γ Λ hr c st K := by
 intro c
 induction c with
 | region id ops draw =>
  intro st K
  unfold qS exec
  simp only [J0, arW, ajw]
  cases hr id <;> rfl
 | seq x y ihx ihy =>
  intro st K
  simp only [qS, exec, ihx]
  congr 1
  funext e s
  cases e <;> simp only [ihy]
 | cond c x y ihx ihy =>
  intro st K
  unfold qS exec
  simp only [ihx, ihy]
  cases c with
  | tmp i =>
   simp only
   generalize st (.tm i) = x
   split
   ·rename_i b
    cases b <;> rfl
   ·rfl
   ·rename_i h1 h2
    split
    ·exact absurd rfl (h1 _)
    ·exact absurd rfl h2
    ·rfl
  | const v => cases v <;> first | rfl | (rename_i b; cases b <;> rfl)
  | _ => rfl
 | block id b ih => intro st K; simp only [qS, exec, ih]; rfl
 | scope b ih => intro st K; simp only [qS, exec, ih]
 | _ => intros; first | rfl | simp [qS, exec]
def amY (hl : Nat → Option Hint) (Λ2 : Lam) : Lam := fun b st K => match hl (xB b) with
 | none => none
 | some h => (canon h st).bind fun st' => Λ2 b st' K
section
variable {E : Env}
open Classical in
noncomputable def adp (E : Env) (Γ : Fun) (h1 h2 : Nat → Option Hint) : Lam := fun b st K => if h : ∃ o n, eH E Γ h1 h2 n b st K = some o then some (Classical.choose h) else none
theorem ae6 {Γ h1 h2} {b st K o} (h : adp E Γ h1 h2 b st K = some o) : ∃ n, eH E Γ h1 h2 n b st K = some o := by
 unfold adp at h
 split at h
 ·rename_i hh
  obtain rfl := Option.some.inj h
  exact Classical.choose_spec hh
 ·cases h
theorem akN {Γ : Fun} {h1 h2} {n : Nat} {b st K o} (h : eH E Γ h1 h2 n b st K = some o) : adp E Γ h1 h2 b st K = some o := by
 unfold adp
 have hh : ∃ o n, eH E Γ h1 h2 n b st K = some o := ⟨o, n, h⟩
 rw [dif_pos hh]
 obtain ⟨m, hm⟩ := Classical.choose_spec hh
 have q1 := agW (Nat.le_max_left n m) _ _ _ _ _ (KLe.refl _) h
 have q2 := agW (Nat.le_max_right n m) _ _ _ _ _ (KLe.refl _) hm
 rw [q1] at q2
 exact congrArg some (Option.some.inj q2).symm
noncomputable def bV (E : Env) (Γ : Fun) (hl hr : Nat → Option Hint) : Lam := fun b st K => exec E Γ (adp E Γ hl hr) hr b st (oD (fun st => adp E Γ hl hr b st K) K)
theorem ao4 (Γ : Fun) (hl hr : Nat → Option Hint) : adp E Γ hl hr = amY hl (bV E Γ hl hr) := by
 funext b st K
 apply Option.ext
 intro o
 constructor
 ·intro h
  obtain ⟨n, hn⟩ := ae6 h
  cases n with
  | zero => simp [eH] at hn
  | succ n =>
   rw [eH] at hn
   unfold amY
   split at hn
   ·cases hn
   ·rename_i hh hhe
    obtain ⟨st', c1, c2⟩ := Option.bind_eq_some_iff.1 hn
    rw [hhe]
    simp only [c1, Option.bind_some]
    refine vU (Λ := eH E Γ hl hr n) (FLe.refl _) (fun b st K K' o hK h => akN (ai3 hK h)) b st' _ _ o (fun e s o' h' => ?_) c2
    cases e <;> simp only [oD] at h' ⊢ <;> first | exact akN h' | exact h'
 ·intro h
  unfold amY at h
  split at h
  ·cases h
  ·rename_i hh hhe
   obtain ⟨st', c1, c2⟩ := Option.bind_eq_some_iff.1 h
   obtain ⟨n, hn⟩ := aeZ (E := E) (Γn := fun _ => Γ) (Γ := Γ) (Λn := fun n => eH E Γ hl hr n) (fun _ => FLe.refl _) (fun _ _ _ _ _ h => ⟨0, h⟩) (fun n => nX (FLe.refl _) n)
    (fun b st K Kn o a1 a2 a3 => by obtain ⟨n, hn⟩ := ae6 a3; exact abf (Γn := fun _ => Γ) (fun _ => FLe.refl _) (fun _ _ _ _ _ h => ⟨0, h⟩) n b st K Kn o a1 a2 hn) b st' _
    (fun n => oD (fun st => eH E Γ hl hr n b st K) K) o (fun n e s o' h' => by
     cases e <;> simp only [oD] at h' ⊢ <;> first | exact nX (FLe.refl _) n _ _ _ _ _ (KLe.refl _) h' | exact h') (fun e s o' h' => by
     cases e <;> simp only [oD] at h' ⊢ <;> first | exact ae6 h' | exact ⟨0, h'⟩) c2
   refine akN (n := n + 1) ?_
   rw [eH, hhe]
   simp only [c1, Option.bind_some]
   exact hn
theorem avo {Γ : Fun} (hΓ : FLe Γ (bF E)) {h1 h2} : LLe (adp E Γ h1 h2) (adt E h1 h2) := by
 intro b st K K' o hK h
 obtain ⟨n, hn⟩ := ae6 h
 have : ∀ n, LLe (eH E Γ h1 h2 n) (eH E (bF E) h1 h2 n) := by
  intro n
  induction n with
  | zero => intro b st K K' o hK h; simp [eH] at h
  | succ n ih =>
   intro b st K K' o hK h
   rw [eH] at h ⊢
   split at h
   ·cases h
   ·obtain ⟨st', h1, h2⟩ := Option.bind_eq_some_iff.1 h
    rw [h1]
    refine vU hΓ ih b st' _ _ o (fun e s o' h' => ?_) h2
    cases e <;> simp only [oD] at h' ⊢ <;> first | exact ih _ _ _ _ _ hK h' | exact hK _ _ _ h'
 exact aqk (this n _ _ _ _ _ hK hn)
end
noncomputable def bG (E : Env) (C : aP) (Λ2 J : Lam) (f : FuncId) (args : List AV) (bs : List Bx) (rs : List Rw) : Res :=
 match E.fn f with
 | none => none
 | some fn => match fn.body with
  | none => none
  | some c => match E.tm f with
   | none => none
   | some (ss, tbs) =>
    if !(codeOk fn.ntmps c && Nat.ble args.length fn.ntmps) then none else qS E C (amY (E.hl f) Λ2) J (E.hr f) c (af7 0 args (inSto bs rs)) (amU (finish E fn ss tbs bs.length) (E.pv f))
noncomputable def nav (E : Env) (C : aP) (Λ J : Lam) (hr : Nat → Option Hint) : List Nat → Code → (Ex → Sto → Res) → Code × (Ex → Sto → Res)
 | [], c, K => (c, K)
 | i :: p, c, K =>
  match c with
  | .seq a b => match i with
   | 0 => nav E C Λ J hr p a fun e st' => match e with | .normal => qS E C Λ J hr b st' K | e => K e st'
   | _ + 1 => nav E C Λ J hr p b K
  | .cond _ a b => match i with
   | 0 => nav E C Λ J hr p a K
   | _ + 1 => nav E C Λ J hr p b K
  | .block id b => nav E C Λ J hr p b fun e st' => match e with
   | .exit i => if Nat.beq i id then K .normal st' else K (.exit i) st'
   | e => K e st'
  | .loop b => nav E C Λ J hr p b (oD (fun st => Λ b st K) K)
  | .scope b => nav E C Λ J hr p b K
  | c => (c, K)
def axS (Λ2 J : Lam) (x : Code × (Ex → Sto → Res)) (st : Sto) : Res :=
 match x with
 | (.loop b, K) => Λ2 b st K
 | (c, K) => J c st K
noncomputable def aug (E : Env) (C : aP) (Λ J : Lam) (hr : Nat → Option Hint) (x : Code × (Ex → Sto → Res)) (st : Sto) : Res :=
 match x with
 | (.loop b, K) => qS E C Λ J hr b st (oD (fun st => Λ b st K) K)
 | (.region _ ops draw, K) => arW E C ops draw st K
 | _ => none
noncomputable def awz (E : Env) (C : aP) (Λ2 J : Lam) (f : FuncId) (nb : Nat) (p : List Nat) : Code × (Ex → Sto → Res) :=
 match E.fn f with
 | none => (.skip, fun _ _ => none)
 | some fn => match fn.body with
  | none => (.skip, fun _ _ => none)
  | some c => match E.tm f with
   | none => (.skip, fun _ _ => none)
   | some (ss, tbs) => nav E C (amY (E.hl f) Λ2) J (E.hr f) p c (amU (finish E fn ss tbs nb) (E.pv f))
noncomputable def lab (E : Env) (C : aP) (Λ2 J : Lam) (f : FuncId) (nb : Nat) (p : List Nat) (st : Sto) : Res := axS Λ2 J (awz E C Λ2 J f nb p) st
noncomputable def bW (E : Env) (C : aP) (Λ2 J : Lam) (f : FuncId) (nb : Nat) (p : List Nat) (st : Sto) : Res := aug E C (amY (E.hl f) Λ2) J (E.hr f) (awz E C Λ2 J f nb p) st
section
variable {E : Env}
theorem arY (Γ : Fun) (f a b r) : bG E (aR Γ) (bV E Γ (E.hl f) (E.hr f)) (J0 E (aR Γ)) f a b r = body E Γ (adp E Γ (E.hl f) (E.hr f)) f a b r := by
 unfold bG body
 simp only [al3, ← ao4]
 cases E.fn f with
 | none => rfl
 | some fn =>
  rcases fn with ⟨_, _, _, _, _, _, _, _, bo⟩
  cases bo with
  | none => rfl
  | some c => rfl
theorem awG (Γ : Fun) (f nb p st) : lab E (aR Γ) (bV E Γ (E.hl f) (E.hr f)) (J0 E (aR Γ)) f nb p st = bW E (aR Γ) (bV E Γ (E.hl f) (E.hr f)) (J0 E (aR Γ)) f nb p st := by
 unfold lab bW axS aug
 generalize awz E (aR Γ) (bV E Γ (E.hl f) (E.hr f)) (J0 E (aR Γ)) f nb p = x
 obtain ⟨c, K⟩ := x
 cases c <;> simp only [J0, al3, ← ao4] <;> rfl
end
def Le (x y : Res) : Prop := ∀ o, x = some o → y = some o
theorem Le.refl (x : Res) : Le x x := fun _ h => h
theorem Le.trans {x y z : Res} (h : Le x y) (g : Le y z) : Le x z := fun _ e => g _ (h _ e)
theorem le_none {R : Type} {e : R → Out} {y : Res} : Le (Option.map e none) y := fun _ h => by cases h
theorem aJ {R : Type} {e : R → Out} {r : R} {o : Out} (h : e r = o) : Le (Option.map e (some r)) (some o) := by subst h; exact Le.refl _
open Classical in
def ahH {R : Type} [DecidableEq R] (a b : Option R) : Option R := if a = b then a else none
theorem arj {R : Type} [DecidableEq R] {e : R → Out} {a b : Option R} {a' b' : Res} (h1 : Le (a.map e) a') (h2 : Le (b.map e) b') : Le ((ahH a b).map e) (adj a' b') := by
 intro o ho
 unfold ahH at ho
 split at ho
 ·rename_i hab
  subst hab
  rw [h1 o ho, h2 o ho]
  exact ahb _
 ·cases ho
theorem ajW {R : Type} {e : R → Out} {c c' : Bool} {a b : Option R} {a' b' : Res} (hc : c = c') (h1 : c = true → Le (a.map e) a') (h2 : c = false → Le (b.map e) b') : Le ((cond c a b).map e) (cond c' a' b') := by
 subst hc; cases c
 ·exact h2 rfl
 ·exact h1 rfl
theorem le_of_eq {x y : Res} (h : x = y) : Le x y := h ▸ Le.refl _
open Classical in
noncomputable def zI (E : Env) (good : FuncId → Out → Prop) : Fun := fun f a b r => (bF E f a b r).bind fun o => if good f o then some o else none
open Classical in
noncomputable def ajK (E : Env) (good : FuncId → Out → Prop) (g : FuncId) {R : Type} (out : R → Out) (a : List AV) (b : List Bx) (r : List Rw) (κ : R → Res) : Res :=
 (zI E good g a b r).bind fun o => if h : ∃ x, out x = o then κ (Classical.choose h) else none
def bB (C : aP) (g : FuncId) {R : Type} (out : R → Out) (γ : List AV → List Bx → List Rw → (R → Res) → Res) : aP := fun f a b r k => bif Nat.beq f g then γ a b r (fun x => k (out x)) else C f a b r k
section
variable {E : Env} {good : FuncId → Out → Prop}
theorem aqa : FLe (zI E good) (bF E) := by
 intro f a b r o h
 unfold zI at h
 obtain ⟨o', h1, h2⟩ := Option.bind_eq_some_iff.1 h
 split at h2
 ·rw [← h2]; exact h1
 ·cases h2
theorem bD {g : FuncId} {R : Type} {out : R → Out} (hg : ∀ o, good g o → ∃ x, out x = o) : bB (aR (zI E good)) g out (ajK E good g out) = aR (zI E good) := by
 funext f a b r k
 unfold bB
 cases hfg : Nat.beq f g
 ·rfl
 ·have := Nat.eq_of_beq_eq_true hfg; subst this
  simp only [cond_true]
  unfold ajK aR
  unfold zI
  cases bF E f a b r with
  | none => rfl
  | some o =>
   simp only [Option.bind_some]
   split
   ·rename_i hgo
    have hx := hg o hgo
    simp only [Option.bind_some]
    rw [dif_pos hx, Classical.choose_spec hx]
   ·rfl
theorem ax0 {g : FuncId} {R S : Type} {out : R → Out} {e : S → Out} {x : Option R} {M : R → Option S} {a : List AV} {b : List Bx} {r : List Rw} {κ : R → Res}
  (hg : ∀ y, good g (out y)) (hi : ∀ y z, out y = out z → y = z) (h : Le (x.map out) (bF E g a b r)) (hk : ∀ y, x = some y → Le ((M y).map e) (κ y)) : Le ((x.bind M).map e) (ajK E good g out a b r κ) := by
 intro o ho
 cases x with
 | none => cases ho
 | some y =>
  have h1 := h (out y) rfl
  unfold ajK zI
  rw [h1]
  simp only [Option.bind_some, if_pos (hg y)]
  have hx : ∃ z, out z = out y := ⟨y, rfl⟩
  rw [dif_pos hx, hi _ _ (Classical.choose_spec hx)]
  exact hk y rfl o ho
theorem ayJ {x : Res} {f a b r} (hlib : E.lib f = none) (h : Le x (bG E (aR (zI E good)) (bV E (zI E good) (E.hl f) (E.hr f)) (J0 E (aR (zI E good))) f a b r)) : Le x (bF E f a b r) := by
 intro o ho
 have h1 := h o ho
 rw [arY] at h1
 exact arK hlib (an2 aqa (avo aqa) f a b r o h1)
end
end PX
namespace PX
open Go
abbrev Str := List UInt8
def Injective {α β : Type} (f : α → β) : Prop := ∀ ⦃a b : α⦄, f a = f b → a = b
def aAd : List (Nat × AV) → Sto → Sto
 | [], s => s
 | (t, a) :: r, s => aAd r (s.upd (.tm t) (.av a))
def axy : List (Nat × Rw) → Sto → Sto
 | [], s => s
 | (n, x) :: r, s => axy r (s.upd (.rw n) (.row x.ks x.e x.bytes x.xs false))
def aA3 : List (Nat × (List UInt8 × Nat)) → Sto → Sto
 | [], s => s
 | (n, x) :: r, s => aA3 r (s.upd (.it n) (.iter x.1 x.2))
def aV (tmps : List (Nat × AV)) (boxes lent : List Bx) (its : List (Nat × (List UInt8 × Nat))) (rows : List (Nat × Rw)) : Sto :=
 axy rows (aA3 its (cX 2000000000 lent (cX 1000000000 boxes (aAd tmps Sto.nil))))
def encI (k : IntKind) (n : Int) : List D := [.int k n]
def nY (b : Bool) : List D := [.bool b]
def cU (s : Str) : List D := [.str s]
def anr {α : Type} (ks : List CK) (f : α → List D) (l : List α) : List D := [.sl ks (l.map f)]
theorem agM {α β : Type} [Inhabited α] {f : α → List D} {g : D → β} {p : α → β} {j : Nat} (h1 : ∀ a, g (cellAt (f a) j) = p a) (h2 : g .und = p default) (l : List α) (i : Nat) :
  g (cellAt (elemAt (l.map f) i) j) = p (l.getD i default) := by
 unfold elemAt
 by_cases hi : i < l.length
 ·rw [List.getD_eq_getElem?_getD, List.getElem?_eq_getElem (by simpa using hi), List.getD_eq_getElem?_getD, List.getElem?_eq_getElem hi]
  simp [h1]
 ·rw [List.getD_eq_getElem?_getD, List.getElem?_eq_none (by simpa using hi), List.getD_eq_getElem?_getD, List.getElem?_eq_none (by omega)]
  simpa [cellAt] using h2
theorem afk (k : IntKind) (l : List Int) (i : Nat) : aX (cellAt (elemAt (l.map (encI k)) i) 0) = l.getD i default := agM (f := encI k) (g := aX) (p := fun x => x) (fun _ => rfl) rfl l i
theorem aDt (l : List Bool) (i : Nat) : dU (cellAt (elemAt (l.map nY) i) 0) = l.getD i default := agM (f := nY) (g := dU) (p := fun x => x) (fun _ => rfl) rfl l i
theorem aCU (l : List Str) (i : Nat) : bL (cellAt (elemAt (l.map cU) i) 0) = l.getD i default := agM (f := cU) (g := bL) (p := fun x => x) (fun _ => rfl) rfl l i
theorem aDO {α : Type} (ks : List CK) (f : α → List D) (l : List (List α)) (i : Nat) : dSl (cellAt (elemAt (l.map (anr ks f)) i) 0) = (l.getD i default).map f := agM (f := anr ks f) (g := dSl) (p := fun x => x.map f) (fun _ => rfl) rfl l i
theorem au2 {α : Type} (f : α → List D) (l r : List α) : l.map f ++ r.map f = (l ++ r).map f := (List.map_append ..).symm
theorem atZ {α : Type} (f : α → List D) (l : List α) (n : Nat) : (l.map f).take n = (l.take n).map f := (List.map_take ..).symm
theorem atI {α : Type} (f : α → List D) (l : List α) (n : Nat) : (l.map f).drop n = (l.drop n).map f := (List.map_drop ..).symm
theorem avx {α : Type} (f : α → List D) (l : List α) : List.isEmpty (l.map f) = List.isEmpty l := by cases l <;> rfl
theorem avc {α : Type} (f : α → List D) (l : List α) : (l.map f).length = l.length := List.length_map ..
theorem awm {α : Type} (f : α → List D) (l : List α) (lo hi : Option Int) : dB (l.map f) lo hi = (dB l lo hi).map f := by
 cases lo <;> cases hi <;> simp [dB, List.map_take, List.map_drop]
theorem azr (k : IntKind) (n : Int) : [[D.int k n]] = [n].map (encI k) := rfl
theorem aBA (b : Bool) : [[D.bool b]] = [b].map nY := rfl
theorem aBT (s : Str) : [[D.str s]] = [s].map cU := rfl
def ofStr (s : Str) : List Int := s.map fun b => (b.toNat : Int)
def bytesOf (l : List Int) : Str := l.map fun n => UInt8.ofNat n.toNat
theorem aox (s : Str) : hQ s = (ofStr s).map (encI .u8) := by simp [hQ, ofStr, encI, Function.comp_def]
theorem arb (l : List Int) : aas (l.map (encI .u8)) = bytesOf l := by simp [aas, bytesOf, encI, Function.comp_def, cellAt, aX]
def rY (xs : List (List D)) (i off : Nat) (ds : List D) : List (List D) := xs.set i ((elemAt xs i).take off ++ ds ++ (elemAt xs i).drop (off + ds.length))
theorem pK {α : Type} [Inhabited α] (f : α → List D) (off : Nat) (ds : List D) (g : α → α) (hf : ∀ a, (f a).take off ++ ds ++ (f a).drop (off + ds.length) = f (g a)) (l : List α) (i : Nat) :
  rY (l.map f) i off ds = (l.set i (g (l.getD i default))).map f := by
 unfold rY
 by_cases hi : i < l.length
 ·have : elemAt (l.map f) i = f (l.getD i default) := by
   unfold elemAt
   rw [List.getD_eq_getElem?_getD, List.getElem?_eq_getElem (by simpa using hi), List.getD_eq_getElem?_getD, List.getElem?_eq_getElem hi]
   simp
  rw [this, hf, List.map_set]
 ·rw [List.set_eq_of_length_le (by simpa using hi), List.set_eq_of_length_le (by omega)]
theorem aDE (k : IntKind) (n : Int) (l : List Int) (i : Nat) : rY (l.map (encI k)) i 0 [.int k n] = (l.set i n).map (encI k) := pK _ _ _ (fun _ => n) (fun _ => rfl) l i
theorem aCL (b : Bool) (l : List Bool) (i : Nat) : rY (l.map nY) i 0 [.bool b] = (l.set i b).map nY := pK _ _ _ (fun _ => b) (fun _ => rfl) l i
theorem aEp (s : Str) (l : List Str) (i : Nat) : rY (l.map cU) i 0 [.str s] = (l.set i s).map cU := pK _ _ _ (fun _ => s) (fun _ => rfl) l i
theorem aDy (k : IntKind) (n : Nat) : List.replicate n [D.int k 0] = (List.replicate n (default : Int)).map (encI k) := by rw [List.map_replicate]; rfl
theorem aFl (n : Nat) : List.replicate n [D.bool false] = (List.replicate n (default : Bool)).map nY := by rw [List.map_replicate]; rfl
theorem aEH (n : Nat) : List.replicate n [D.str []] = (List.replicate n (default : Str)).map cU := by rw [List.map_replicate]; rfl
theorem wD (k : IntKind) : Injective (encI k) := fun a b h => by simpa [encI] using h
theorem aqv : Injective cU := fun a b h => by simpa [cU] using h
theorem map_inj {α β : Type} {f : α → β} (h : Injective f) : ∀ {l r : List α}, l.map f = r.map f → l = r
 | [], [], _ => rfl
 | [], _ :: _, e => by simp at e
 | _ :: _, [], e => by simp at e
 | a :: l, b :: r, e => by
  simp only [List.map_cons, List.cons.injEq] at e
  rw [h e.1, map_inj h e.2]
def bJ : Nat → List AV → AV
 | 0, l => l.headD .dead
 | n + 1, l => bJ n l.tail
def oB : Nat → List Rw → List (List D)
 | 0, l => (l.head?.map (·.xs)).getD []
 | n + 1, l => oB n l.tail
def tA : Nat → List Bx → List AV
 | 0, l => (l.head?.map (·.cells)).getD []
 | n + 1, l => tA n l.tail
abbrev Gm (R : Type) := List AV → List Bx → List Rw → (R → Res) → Res
def assoc {α : Type} : List (Nat × α) → Nat → Option α
 | [], _ => none
 | (k, v) :: r, n => bif Nat.beq k n then some v else assoc r n
theorem yO {α : Type} : ∀ {l : List (Nat × α)} {n : Nat} {v : α}, assoc l n = some v → (n, v) ∈ l
 | [], _, _, h => by simp [assoc] at h
 | (k, w) :: r, n, v, h => by
  rw [assoc] at h
  cases hk : Nat.beq k n
  ·rw [hk] at h; exact List.mem_cons_of_mem _ (yO h)
  ·rw [hk] at h
   have := Nat.eq_of_beq_eq_true hk
   simp at h; subst h; subst this; exact List.mem_cons_self
section
variable {E : Env}
theorem aZ {C : aP} {Γ : Fun} (h : C = aR Γ) {f nb p st} : lab E C (bV E Γ (E.hl f) (E.hr f)) (J0 E C) f nb p st = bW E C (bV E Γ (E.hl f) (E.hr f)) (J0 E C) f nb p st := by
 subst h; exact awG Γ f nb p st
theorem aW {good : FuncId → Out → Prop} {C : aP} (hC : C = aR (zI E good)) {x : Res} {f a b r} (hlib : E.lib f = none)
  (h : Le x (bG E C (bV E (zI E good) (E.hl f) (E.hr f)) (J0 E C) f a b r)) : Le x (bF E f a b r) := by
 subst hC; exact ayJ hlib h
end
def CK.wt : CK → Nat
 | .int .i64 | .int .u64 | .fn => 8
 | .int .i32 | .int .u32 => 4
 | .int .i16 | .int .u16 => 2
 | .int _ | .bool => 1
 | .str | .ifc => 16
 | .sl _ => 24
 | .ptr => 8
def wtL : List CK → Nat
 | [] => 0
 | k :: ks => k.wt + wtL ks
def agv : Nat := 140737488351232
mutual
def D.ok : CK → D → Prop
 | .int k, .int k' n => k' = k ∧ (Lit.int k n).wf = true
 | .bool, .bool _ => True
 | .str, .str s => s.length ≤ agv
 | .sl ks, .sl ks' xs => ks' = ks ∧ xs.length * wtL ks ≤ agv ∧ ∀ e ∈ xs, D.okL ks e
 | _, _ => False
def D.okL : List CK → List D → Prop
 | [], [] => True
 | k :: ks, d :: ds => D.ok k d ∧ D.okL ks ds
 | _, _ => False
end
mutual
def D.aje : D → Nat
 | .str s => s.length + 1
 | .sl _ xs => tD xs + 1
 | _ => 1
def oC : List D → Nat
 | [] => 0
 | d :: r => D.aje d + oC r
def tD : List (List D) → Nat
 | [] => 0
 | d :: r => oC d + tD r
end
theorem dS {k : IntKind} {d : D} (h : D.ok (.int k) d) : D.int k (aX d) = d := by cases d <;> simp only [D.ok] at h; obtain ⟨rfl, _⟩ := h; rfl
theorem wM {d : D} (h : D.ok .bool d) : D.bool (dU d) = d := by cases d <;> simp only [D.ok] at h; rfl
theorem mA {d : D} (h : D.ok .str d) : D.str (bL d) = d := by cases d <;> simp only [D.ok] at h; rfl
theorem aru {α : Type} {ks : List CK} {f : α → List D} {g : List D → α} (hg : ∀ e, D.okL ks e → f (g e) = e) : ∀ {xs : List (List D)}, (∀ e ∈ xs, D.okL ks e) → (xs.map g).map f = xs
 | [], _ => rfl
 | x :: xs, h => by
  simp only [List.map_cons]
  rw [hg x (h x List.mem_cons_self), aru hg (fun e he => h e (List.mem_cons_of_mem _ he))]
theorem qH {α : Type} {ks : List CK} {f : α → List D} {g : List D → α} (hg : ∀ e, D.okL ks e → f (g e) = e) {d : D} (h : D.ok (.sl ks) d) : D.sl ks (((dSl d).map g).map f) = d := by
 cases d <;> simp only [D.ok] at h
 obtain ⟨rfl, _, h⟩ := h
 simp only [dSl]
 rw [aru hg h]
theorem bS {k : CK} {ks : List CK} {e : List D} (h : D.okL (k :: ks) e) : ∃ d r, e = d :: r ∧ D.ok k d ∧ D.okL ks r := by
 cases e with
 | nil => simp [D.okL] at h
 | cons d r => exact ⟨d, r, rfl, h⟩
theorem nE {e : List D} (h : D.okL [] e) : e = [] := by cases e with | nil => rfl | cons => simp [D.okL] at h
def aaJ (e : List D) : Int := aX (cellAt e 0)
def aBP (e : List D) : Bool := dU (cellAt e 0)
def aBj (e : List D) : Str := bL (cellAt e 0)
def aAH {α : Type} (g : List D → α) (e : List D) : List α := (dSl (cellAt e 0)).map g
theorem sJ {k : IntKind} (e : List D) (h : D.okL [.int k] e) : encI k (aaJ e) = e := by
 obtain ⟨d, r, rfl, h0, h⟩ := bS h
 obtain rfl := nE h
 show [D.int k (aX d)] = [d]
 rw [dS h0]
theorem awb {α : Type} {ks : List CK} {f : α → List D} {g : List D → α} (hg : ∀ e, D.okL ks e → f (g e) = e) (e : List D) (h : D.okL [.sl ks] e) : anr ks f (aAH g e) = e := by
 obtain ⟨d, r, rfl, h0, h⟩ := bS h
 obtain rfl := nE h
 show [D.sl ks (((dSl d).map g).map f)] = [d]
 rw [qH hg h0]
theorem azZ {k : IntKind} {e : List D} (h : D.okL [.int k] e) : ∃ p, e = [D.int k p] := ⟨aaJ e, (sJ e h).symm⟩
theorem axE {α : Type} {ks : List CK} {f : α → List D} {g : List D → α} (hg : ∀ e, D.okL ks e → f (g e) = e) {e : List D} (h : D.okL [.sl ks] e) : ∃ p, e = [D.sl ks (List.map f p)] := ⟨aAH g e, (awb hg e h).symm⟩
theorem lC {R : Type} {e : R → Out} {c : Bool} {a b : Option R} {a' b' : Res} (h1 : Le (a.map e) a') (h2 : Le (b.map e) b') : Le ((cond c a b).map e) (cond c a' b') := ajW rfl (fun _ => h1) (fun _ => h2)
theorem lD {R : Type} {e : R → Out} {c c' : Bool} {a b : Option R} {a' b' : Res} (hc : c = c') (h1 : Le (a.map e) a') (h2 : Le (b.map e) b') : Le ((cond c a b).map e) (cond c' a' b') := ajW hc (fun _ => h1) (fun _ => h2)
theorem lF {R : Type} {e : R → Out} {c : Bool} {a : Option R} {a' : Res} (h1 : Le (a.map e) a') : Le ((cond c a none).map e) (cond c a' none) := ajW rfl (fun _ => h1) (fun _ => le_none)
theorem lG {R : Type} {e : R → Out} {c c' : Bool} {a : Option R} {a' : Res} (hc : c = c') (h1 : Le (a.map e) a') : Le ((cond c a none).map e) (cond c' a' none) := ajW hc (fun _ => h1) (fun _ => le_none)
theorem eX {R : Type} {out : R → Out} (y : R) : ∃ x, out x = out y := ⟨y, rfl⟩
def fuel : Nat := 1000000000000000000
end PX
set_option linter.unusedVariables false
set_option linter.unusedSimpArgs false
namespace PX
open Go
def abe (P : Program) (r : TypeId → Option (List CK)) : List Field → Nat → Option (List CK)
 | [], _ => some []
 | f :: fs, off => (r f.type).bind fun ks => if (Nat.beq f.offset off && Nat.beq (P.cellsOf f.type) ks.length) = true then (abe P r fs (off + ks.length)).map (ks ++ ·) else none
def dty (P : Program) : Nat → TypeId → Option (List CK)
 | 0, _ => none
 | n + 1, t =>
  match P.underlying t with
  | some .bool => if Nat.beq (P.cellsOf t) 1 then some [.bool] else none
  | some (.int k) => if Nat.beq (P.cellsOf t) 1 then some [.int k] else none
  | some .string => if Nat.beq (P.cellsOf t) 1 then some [.str] else none
  | some (.slice e) => (dty P n e).bind fun ks => if (Nat.beq (P.cellsOf e) ks.length && Nat.blt 0 ks.length && Nat.beq (P.cellsOf t) 1 && Nat.ble (wtL ks) (P.bytesOf e)) = true then some [.sl ks] else none
  | some (.struct fs) => (abe P (dty P n) fs.toList 0).bind fun ks => if Nat.beq (P.cellsOf t) ks.length = true then some ks else none
  | _ => none
structure acX {H : Type} (u : DataW H → Nat) (ua : List (DataW H) → Nat) : Prop where
 lit : ∀ l, 1 ≤ u (.lit l)
 str : ∀ b, b.length + 1 ≤ u (.lit (.string b))
 nil : 1 ≤ u .nil
 sl : ∀ e s, ua e + 1 ≤ u (.slice e s)
 agg : ∀ p, ua p ≤ u (.agg p)
 nilA : ua [] = 0
 cons : ∀ d r, ua (d :: r) = u d + ua r
inductive RDs (F : Nat → Prop) (w : World) : List CK → List D → List Value → Prop
 | nil : RDs F w [] [] []
 | cons {k d v ks ds vs} (h : DR F w k d v) (ho : D.ok k d) (hs : RDs F w ks ds vs) : RDs F w (k :: ks) (d :: ds) (v :: vs)
theorem RDs.append {F w ks ds vs ks' ds' vs'} (h : RDs F w ks ds vs) (h' : RDs F w ks' ds' vs') : RDs F w (ks ++ ks') (ds ++ ds') (vs ++ vs') := by
 induction h with
 | nil => exact h'
 | cons h ho hs ih => exact .cons h ho ih
theorem RDs.amI {F w ks ds vs} (h : RDs F w ks ds vs) : ds.length = ks.length ∧ vs.length = ks.length := by
 induction h with
 | nil => simp
 | cons h ho hs ih => simp [ih]
theorem RDs.ok {F w ks ds vs} (h : RDs F w ks ds vs) : D.okL ks ds := by
 induction h with
 | nil => simp [D.okL]
 | cons h ho hs ih => exact ⟨ho, ih⟩
theorem RDs.get {F : Nat → Prop} {w : World} {ks : List CK} {ds : List D} {vs : List Value} (h : RDs F w ks ds vs) : ∀ {i : Nat} {k : CK} {d : D} {v : Value}, ks[i]? = some k → ds[i]? = some d → vs[i]? = some v → DR F w k d v := by
 induction h with
 | nil => intro i k d v h1; simp at h1
 | cons h ho hs ih =>
  intro i k d v h1 h2 h3
  cases i with
  | zero => simp at h1 h2 h3; subst h1; subst h2; subst h3; exact h
  | succ i => simp at h1 h2 h3; exact ih h1 h2 h3
theorem RDs.acr {G : Gh} {w ks ds vs} (h : RDs G.F w ks ds vs) : AVRs G w (ds.map AV.d) vs := by
 induction h with
 | nil => exact .nil
 | cons h ho hs ih => exact .cons _ _ _ _ (.d h) ih
theorem aiP : ∀ (a b : List D), oC (a ++ b) = oC a + oC b
 | [], b => by simp [oC]
 | x :: a, b => by simp only [List.cons_append, oC, aiP a b]; omega
section
variable {P : Program} {H : Type} {enc : TypeId × Value → H} {w : World} {base : Nat} {held : Bool} {u : DataW H → Nat} {ua : List (DataW H) → Nat}
theorem alw {r : TypeId → Option (List CK)} (hr : ∀ t ks, r t = some ks → ks.all CK.isData = true) : ∀ {fs : List Field} {off : Nat} {ks : List CK}, abe P r fs off = some ks → ks.all CK.isData = true
 | [], _, ks, h => by simp [abe] at h; subst h; rfl
 | f :: fs, off, ks, h => by
  rw [abe] at h
  obtain ⟨k1, h1, h2⟩ := Option.bind_eq_some_iff.1 h
  split at h2
  ·obtain ⟨k2, h3, rfl⟩ := Option.map_eq_some_iff.1 h2
   rw [List.all_append, hr _ _ h1, alw hr h3]; rfl
  ·cases h2
theorem akW : ∀ {n : Nat} {t : TypeId} {ks : List CK}, dty P n t = some ks → ks.all CK.isData = true
 | 0, t, ks, h => by simp [dty] at h
 | n + 1, t, ks, h => by
  rw [dty] at h
  split at h
  ·split at h <;> cases h; rfl
  ·split at h <;> cases h; rfl
  ·split at h <;> cases h; rfl
  ·obtain ⟨k1, h1, h2⟩ := Option.bind_eq_some_iff.1 h
   split at h2
   ·cases h2; have := akW h1; simp [CK.isData, abk, this]
   ·cases h2
  ·obtain ⟨k1, h1, h2⟩ := Option.bind_eq_some_iff.1 h
   split at h2
   ·cases h2; exact alw (fun t ks h => akW h) h1
   ·cases h2
  ·cases h
theorem akl (B : acX u ua) {r : TypeId → Option (List CK)} {tr : TypeId → List Value → Option (DataW H × List MemPlace)} {cs : List Value} {F : Nat → Prop}
  (hr : ∀ t ks, r t = some ks → ∀ cs x, tr t cs = some x → (∀ y ∈ x.1.weights P t, y ≤ reachBytes) → ∃ ds, RDs F w ks ds cs ∧ oC ds ≤ u x.1) :
  ∀ {fs : List Field} {off : Nat} {ks : List CK} (xs : List (DataW H × List MemPlace)), abe P r fs off = some ks → cs.length = off + ks.length → xs.length = fs.length → (∀ y ∈ DataW.weightsEach P (fs.map (·.type)) (xs.map (·.1)), y ≤ reachBytes) →
   (∀ (i : Nat) (f : Field), fs[i]? = some f → tr f.type ((cs.drop f.offset).take (P.cellsOf f.type)) = xs[i]?) → ∃ ds, RDs F w ks ds (cs.drop off) ∧ oC ds ≤ ua (xs.map (·.1))
 | [], off, ks, xs, h, hl, hxl, hwt, hx => by
  simp [abe] at h; subst h
  rw [List.drop_eq_nil_of_le (by simpa using Nat.le_of_eq hl)]
  exact ⟨[], .nil, by simp [oC]⟩
 | f :: fs, off, ks, xs, h, hl, hxl, hwt, hx => by
  rw [abe] at h
  obtain ⟨k1, h1, h2⟩ := Option.bind_eq_some_iff.1 h
  split at h2
  ·rename_i hc
   simp only [Bool.and_eq_true] at hc
   have hc1 := Nat.eq_of_beq_eq_true hc.1
   have hc2 := Nat.eq_of_beq_eq_true hc.2
   obtain ⟨k2, h3, rfl⟩ := Option.map_eq_some_iff.1 h2
   cases xs with
   | nil => simp at hxl
   | cons x xs =>
    have e0 := hx 0 f rfl
    simp only [List.getElem?_cons_zero] at e0
    simp only [List.map_cons, DataW.weightsEach, List.mem_append] at hwt
    obtain ⟨ds1, r1, b1⟩ := hr _ _ h1 _ _ e0 (fun y hy => hwt y (.inl hy))
    rw [hc1, hc2] at r1
    obtain ⟨ds2, r2, b2⟩ := akl B hr xs h3 (by rw [hl, List.length_append]; omega) (by simpa using hxl) (fun y hy => hwt y (.inr hy)) (fun i g hg => by simpa using hx (i + 1) g (by simpa using hg))
    refine ⟨ds1 ++ ds2, ?_, ?_⟩
    ·have := r1.append r2
     have e : (cs.drop off).take k1.length ++ cs.drop (off + k1.length) = cs.drop off := by rw [← List.drop_drop]; exact List.take_append_drop _ _
     rw [e] at this; exact this
    ·rw [aiP, List.map_cons, B.cons]; omega
  ·cases h2
theorem aiU (B : acX u ua) : ∀ (n : Nat) {t : TypeId} {ks : List CK}, dty P n t = some ks → ∀ (m : Nat) (cs : List Value) (x : DataW H × List MemPlace),
  DataW.trod enc P w base (fun _ => true) held m t cs = some x → (∀ y ∈ x.1.weights P t, y ≤ reachBytes) → ∃ ds, RDs (fun k => k < w.heap.size) w ks ds cs ∧ oC ds ≤ u x.1
 | 0, t, ks, h => by simp [dty] at h
 | n + 1, t, ks, h => by
  intro m cs x hx hwt
  rw [dty] at h
  split at h
  ·rename_i ht
   split at h <;> cases h
   obtain ⟨b, rfl, rfl⟩ := DataW.trod_bool ht hx
   exact ⟨[.bool b], .cons (.bool b) trivial .nil, by simpa [oC, D.aje] using B.lit _⟩
  ·rename_i k ht
   split at h <;> cases h
   obtain ⟨b, rfl, rfl, hw⟩ := DataW.trod_int ht hx
   exact ⟨[.int k b], .cons (.int k b) ⟨rfl, hw⟩ .nil, by simpa [oC, D.aje] using B.lit _⟩
  ·rename_i ht
   split at h <;> cases h
   obtain ⟨s, rfl, rfl, hs⟩ := DataW.trod_string ht hx
   refine ⟨[.str s.data.toList], .cons (.str _) (by simpa [D.ok, agv, DataW.weights, reachBytes] using hwt) .nil, by simpa [oC, D.aje] using B.str s.data.toList⟩
  ·rename_i e ht
   obtain ⟨k1, h1, h2⟩ := Option.bind_eq_some_iff.1 h
   split at h2
   ·rename_i hc
    cases h2
    simp only [Bool.and_eq_true] at hc
    have hc1 := Nat.eq_of_beq_eq_true hc.1.1.1
    have hwb := Nat.le_of_ble_eq_true hc.2
    have hc2 : 0 < k1.length := by have := hc.1.1.2; simp [Nat.blt] at this; omega
    have hk := akW h1
    rcases DataW.trod_slice ht hx with ⟨rfl, rfl⟩ | ⟨a, len, cap, elems, rest, m', rfl, rfl, rfl, hb, hlc, hcm, hlen, hel, _, _⟩
    ·exact ⟨[.sl k1 []], .cons (.sl k1 [] none 0 (fun _ _ => undef) (by simp) (by simp) (by simp) hk (by simp) (by simp)) ⟨rfl, by simp, by simp⟩ .nil, by simpa [oC, tD, D.aje] using B.nil⟩
    ·simp only [DataW.weights, ht, List.mem_cons, List.mem_append] at hwt
     have hw1 := hwt _ (.inl rfl)
     have hlen2 : len * wtL k1 ≤ agv := by
      have e1 : len * wtL k1 ≤ (List.length (elems.map (·.1)) + List.length (rest.map (·.1))) * P.bytesOf e := Nat.mul_le_mul (by simp [hlen]) hwb
      have e2 : reachBytes = agv := rfl
      omega
     have hall : ∀ (l : List (DataW H × List MemPlace)) (y : DataW H × List MemPlace), y ∈ l → ∀ z ∈ y.1.weights P e, z ∈ DataW.weightsAll P e (l.map (·.1)) := by
      intro l
      induction l with
      | nil => intro y hy; simp at hy
      | cons a l ih =>
       intro y hy z hz
       simp only [List.map_cons, DataW.weightsAll, List.mem_append]
       rcases List.mem_cons.1 hy with rfl | hy
       ·exact .inl hz
       ·exact .inr (ih y hy z hz)
     have each : ∀ i, ∃ p : List D × List Value, i < len → w.cells? base (a.add (i * k1.length)) k1.length = some p.2 ∧ RDs (fun k => k < w.heap.size) w k1 p.1 p.2 ∧ ∃ y, elems[i]? = some y ∧ oC p.1 ≤ u y.1 := by
      intro i
      by_cases hi : i < len
      ·have h3 := hel i hi
       rw [List.getElem?_eq_getElem (by omega)] at h3
       obtain ⟨cs', h4, h5⟩ := Option.bind_eq_some_iff.1 h3
       obtain ⟨ds, h6, h7⟩ := aiU B n h1 _ _ _ h5 (fun z hz => hwt z (.inr (.inl (hall elems _ (List.getElem_mem _) z hz))))
       rw [hc1] at h4
       exact ⟨(ds, cs'), fun _ => ⟨h4, h6, _, List.getElem?_eq_getElem (by omega), h7⟩⟩
      ·exact ⟨([], []), fun h => absurd h hi⟩
     obtain ⟨p, hp⟩ := Classical.skolem.1 each
     have hxs : ∀ j e', ((List.range len).map fun i => (p i).1)[j]? = some e' → j < len ∧ e' = (p j).1 := by
      intro j e' he
      rw [List.getElem?_map] at he
      obtain ⟨i, hi, rfl⟩ := Option.map_eq_some_iff.1 he
      have := List.getElem?_eq_some_iff.1 hi
      obtain ⟨h3, h4⟩ := this
      simp at h3 h4
      subst h4
      exact ⟨h3, rfl⟩
     have hcl : ((List.range len).map fun i => (p i).1).length = len := by simp
     refine ⟨[.sl k1 ((List.range len).map fun i => (p i).1)], .cons ?_ ⟨rfl, by rw [hcl]; exact hlen2, fun e' he => ?_⟩ .nil, ?_⟩
     ·have hd := DR.sl (F := fun k => k < w.heap.size) (w := w) k1 ((List.range len).map fun i => (p i).1) (some a) cap (fun j i => ((p j).2).getD i undef) (by rw [hcl]; exact hlc) (fun e' he => by
        obtain ⟨j, hj⟩ := List.getElem?_of_mem he
        obtain ⟨hj1, rfl⟩ := hxs _ _ hj
        exact (hp j hj1).2.1.amI.1) (fun hne => ⟨a, rfl, by
        have h0 : 0 < len := by
         cases len with
         | zero => simp at hne
         | succ l => omega
        have := World.cells?_block (hp 0 h0).1 hc2
        have hbl : (a.add (0 * k1.length)).block = a.block := by unfold Addr.add; split <;> rfl
        rw [hbl] at this
        exact this⟩) hk (fun ad j e' i d k had hj hi hk' => ?_) (fun j e' i d k hj hi hk' => ?_)
      ·rw [hcl] at hd; exact hd
      ·cases had
       obtain ⟨hj1, rfl⟩ := hxs _ _ hj
       obtain ⟨hc3, hr, _⟩ := hp j hj1
       have hi' : i < k1.length := (List.getElem?_eq_some_iff.1 hk').1
       have hcell := (World.cells?_some hc3).2.2 i hi'
       rw [Addr.add_add] at hcell
       rw [hcell, List.getD_eq_getElem?_getD, List.getElem?_eq_getElem (by rw [hr.amI.2]; exact hi')]
       rfl
      ·obtain ⟨hj1, rfl⟩ := hxs _ _ hj
       obtain ⟨hc3, hr, _⟩ := hp j hj1
       have hi' : i < k1.length := (List.getElem?_eq_some_iff.1 hk').1
       refine hr.get hk' hi ?_
       rw [List.getD_eq_getElem?_getD, List.getElem?_eq_getElem (by rw [hr.amI.2]; exact hi')]
       rfl
     ·obtain ⟨j, hj⟩ := List.getElem?_of_mem he
      obtain ⟨hj1, rfl⟩ := hxs _ _ hj
      exact (hp j hj1).2.1.ok
     ·have hsum : ∀ (l : List Nat) (el : List (DataW H × List MemPlace)), l.length = el.length → (∀ (j i : Nat), l[j]? = some i → ∃ y : DataW H × List MemPlace, el[j]? = some y ∧ oC (p i).1 ≤ u y.1) → tD (l.map fun i => (p i).1) ≤ ua (el.map (·.1)) := by
       intro l
       induction l with
       | nil => intro el hl _; simp [tD]
       | cons i l ih =>
        intro el hl hj
        cases el with
        | nil => simp at hl
        | cons y el =>
         obtain ⟨y', hy', hb'⟩ := hj 0 i rfl
         simp at hy'; subst hy'
         have := ih el (by simpa using hl) (fun j i' h => by simpa using hj (j + 1) i' (by simpa using h))
         simp only [List.map_cons, tD, B.cons]; omega
      have hb2 := hsum (List.range len) elems (by simp [hlen]) (fun j i hj => by
       have := List.getElem?_eq_some_iff.1 hj
       obtain ⟨h3, h4⟩ := this
       simp at h3 h4; subst h4
       obtain ⟨_, _, y, hy, hb3⟩ := hp j h3
       exact ⟨y, hy, hb3⟩)
      have hb4 := B.sl (elems.map (·.1)) (rest.map (·.1))
      simp only [oC, D.aje]; omega
   ·cases h2
  ·rename_i fs ht
   obtain ⟨k1, h1, h2⟩ := Option.bind_eq_some_iff.1 h
   split at h2
   ·rename_i hc
    cases h2
    have hc1 := Nat.eq_of_beq_eq_true hc
    obtain ⟨xs, m', rfl, rfl, hl, hxl, hx'⟩ := DataW.trod_struct ht hx
    obtain ⟨ds, hr, hb⟩ := akl (cs := cs) B (tr := DataW.trod enc P w base (fun _ => true) held m') (fun t ks h cs x hx hw => aiU B n h _ cs x hx hw) xs h1 (by omega) (by simpa using hxl) (by simpa [DataW.weights, ht] using hwt)
     (fun i f hf => hx' i f (by simpa using hf))
    simp only [List.drop_zero] at hr
    exact ⟨ds, hr, Nat.le_trans hb (B.agg _)⟩
   ·cases h2
  ·cases h
end
end PX
set_option linter.unusedVariables false
set_option linter.unusedSimpArgs false
namespace PX
open Go Go.RowKit Go.WideShapes Go.ChangeShapes
section
variable {P : Program} {H : Type} {enc : TypeId × Value → H} {u : DataW H → Nat} {ua : List (DataW H) → Nat}
theorem amm {r : TypeId → Option (List CK)} : ∀ {fs : List Field} {off : Nat} {ks : List CK}, abe P r fs off = some ks →
  (∀ f ∈ fs, ∃ k, r f.type = some k) ∧ ks.length = (fs.map fun f => P.cellsOf f.type).sum ∧ ∀ (j : Nat) f, fs[j]? = some f → f.offset = off + ((fs.take j).map fun f => P.cellsOf f.type).sum
 | [], _, ks, h => by simp [abe] at h; subst h; simp
 | f :: fs, off, ks, h => by
  rw [abe] at h
  obtain ⟨k1, h1, h2⟩ := Option.bind_eq_some_iff.1 h
  split at h2
  ·rename_i hc
   simp only [Bool.and_eq_true] at hc
   have hc1 := Nat.eq_of_beq_eq_true hc.1
   have hc2 := Nat.eq_of_beq_eq_true hc.2
   obtain ⟨k2, h3, rfl⟩ := Option.map_eq_some_iff.1 h2
   obtain ⟨a, b, c⟩ := amm h3
   refine ⟨fun g hg => ?_, ?_, fun j g hg => ?_⟩
   ·rcases List.mem_cons.1 hg with rfl | hg
    ·exact ⟨_, h1⟩
    ·exact a g hg
   ·rw [List.length_append, b, List.map_cons, List.sum_cons, hc2]
   ·cases j with
    | zero => simp at hg; subst hg; simp [hc1]
    | succ j => rw [c j g (by simpa using hg), List.take_succ_cons, List.map_cons, List.sum_cons, hc2]; omega
  ·cases h2
def DT (P : Program) (t : TypeId) : Prop := ∃ n ks, dty P n t = some ks
theorem acq {n : Nat} {t : TypeId} {ks : List CK} (h : dty P n t = some ks) : ∃ m, n = m + 1 := by
 cases n with
 | zero => simp [dty] at h
 | succ m => exact ⟨m, rfl⟩
theorem ayD : Kids P (DT P) := by
 refine ⟨?_, ?_, ?_, ?_, ?_⟩
 ·rintro t e ⟨n, ks, h⟩ ht
  obtain ⟨m, rfl⟩ := acq h
  rw [dty, ht] at h; cases h
 ·rintro t e ⟨n, ks, h⟩ ht
  obtain ⟨m, rfl⟩ := acq h
  rw [dty, ht] at h
  obtain ⟨k1, h1, h2⟩ := Option.bind_eq_some_iff.1 h
  exact ⟨m, k1, h1⟩
 ·rintro t e k ⟨n, ks, h⟩ ht
  obtain ⟨m, rfl⟩ := acq h
  rw [dty, ht] at h; cases h
 ·rintro t fs ⟨n, ks, h⟩ ht
  obtain ⟨m, rfl⟩ := acq h
  rw [dty, ht] at h
  obtain ⟨k1, h1, h2⟩ := Option.bind_eq_some_iff.1 h
  split at h2
  ·rename_i hc
   obtain ⟨a, b, c⟩ := amm h1
   exact ⟨fun f hf => by obtain ⟨k, hk⟩ := a f hf; exact ⟨m, k, hk⟩, by rw [Nat.eq_of_beq_eq_true hc, b], fun j f hf => by rw [c j f hf, Nat.zero_add]⟩
  ·cases h2
 ·rintro t k e ⟨n, ks, h⟩ ht
  obtain ⟨m, rfl⟩ := acq h
  rw [dty, ht] at h; cases h
theorem au8 {t e : TypeId} (hT : DT P t) (ht : P.underlying t = some (.slice e)) : 0 < P.cellsOf e := by
 obtain ⟨n, ks, h⟩ := hT
 obtain ⟨m, rfl⟩ := acq h
 rw [dty, ht] at h
 obtain ⟨k1, h1, h2⟩ := Option.bind_eq_some_iff.1 h
 split at h2
 ·rename_i hc
  simp only [Bool.and_eq_true] at hc
  have := hc.1.1.2
  simp [Nat.blt] at this
  rw [Nat.eq_of_beq_eq_true hc.1.1.1]; omega
 ·cases h2
theorem ahX {w w' : World} {sp' : Nat → Bool} : ∀ {ts : List TypeId} {vs : List Value} {ds : List (DataW H)} {ps : List MemPlace}, (∀ t ∈ ts, DT P t) → DataW.TrodAll enc P w 0 (fun _ => true) true ts vs ds ps →
  (∀ p ∈ ps, w.sameAt w' p) → (∀ p ∈ ps, sp' p.block = true) → DataW.TrodAll enc P w' 0 sp' true ts vs ds ps
 | [], [], [], ps, _, h, _, _ => by simpa [DataW.TrodAll] using h
 | t :: ts, v :: vs, d :: ds, ps, hT, h, h1, h2 => by
  obtain ⟨p, q, ⟨fuel, ht⟩, hs, rfl⟩ := h
  refine ⟨p, q, ⟨fuel, ?_⟩, ahX (fun t ht => hT t (List.mem_cons_of_mem _ ht)) hs (fun x hx => h1 x (by simp [hx])) (fun x hx => h2 x (by simp [hx])), rfl⟩
  exact DataW.trod_stays ayD (fun hT ht => au8 hT ht) (by simp) (hT t List.mem_cons_self) ht (fun x hx => h1 x (by simp [hx])) (fun x hx => h2 x (by simp [hx]))
 | [], _ :: _, _, _, _, h, _, _ => by simp [DataW.TrodAll] at h
 | [], [], _ :: _, _, _, h, _, _ => by simp [DataW.TrodAll] at h
 | _ :: _, [], _, _, _, h, _, _ => by simp [DataW.TrodAll] at h
 | _ :: _, _ :: _, [], _, _, h, _, _ => by simp [DataW.TrodAll] at h
def oG (P : Program) (t : TypeId) : Bool := match P.underlying t with | some (.struct _) => true | _ => false
def ajS (b : Bool) (ds : List D) : AV := if b then .agg (ds.map .d) else match ds with | [d] => .d d | _ => .dead
def aau : List Bool → List (List D) → List AV
 | b :: bs, ds :: dss => ajS b ds :: aau bs dss
 | _, _ => []
def yU : List (List CK) → List (List D) → Prop
 | ks :: kss, ds :: dss => D.okL ks ds ∧ yU kss dss
 | [], [] => True
 | _, _ => False
def aaI : Nat := 12
theorem acK {ks : List CK} {kss : List (List CK)} {dss : List (List D)} (h : yU (ks :: kss) dss) : ∃ e r, dss = e :: r ∧ D.okL ks e ∧ yU kss r := by
 cases dss with
 | nil => simp [yU] at h
 | cons e r => exact ⟨e, r, rfl, h⟩
theorem ag6 {dss : List (List D)} (h : yU [] dss) : dss = [] := by cases dss with | nil => rfl | cons => simp [yU] at h
theorem awD {w : World} {G : Gh} (hG : G.F = fun k => k < w.heap.size) (B : acX u ua) {r : Reach} {b0 : Nat} {t : TypeId} {v : Value} {d : DataW H} {ps : List MemPlace} {ks : List CK} (hd : dty P aaI t = some ks)
  (hv : Value.okWide P w r b0 t v) (h : DataW.Trod enc P w 0 (fun _ => true) true t v d ps) (hwt : ∀ y ∈ d.weights P t, y ≤ reachBytes) : ∃ ds, AVR G w (ajS (oG P t) ds) v ∧ D.okL ks ds ∧ oC ds ≤ u d := by
 obtain ⟨fuel, hf⟩ := h
 obtain ⟨ds, hr, hb⟩ := aiU B aaI hd fuel _ _ hf hwt
 refine ⟨ds, ?_, hr.ok, hb⟩
 rw [← hG] at hr
 unfold aaI at hd
 rw [dty] at hd
 have one : ∀ (hc : v.cells.toList = [v]), oG P t = false → AVR G w (ajS (oG P t) ds) v := by
  intro hc hs
  rw [hc] at hr
  rw [hs]
  cases hr with
  | cons h ho hs => cases hs; exact .d h
 split at hd
 ·rename_i ht
  obtain ⟨b, rfl⟩ := okWide_bool ht hv
  exact one rfl (by simp [oG, ht])
 ·rename_i ht
  obtain ⟨b, rfl⟩ := okWide_int ht hv
  exact one rfl (by simp [oG, ht])
 ·rename_i ht
  obtain ⟨b, rfl⟩ := okWide_string ht hv
  exact one rfl (by simp [oG, ht])
 ·rename_i ht
  obtain ⟨a, l, c, rfl⟩ := okWide_slice ht hv
  exact one rfl (by simp [oG, ht])
 ·rename_i ht
  obtain ⟨cs, rfl, _⟩ := okWide_struct ht hv
  have hs : oG P t = true := by simp [oG, ht]
  rw [hs]
  have hr' : RDs G.F w ks ds cs.toList := hr
  have := AVR.agg _ _ hr'.acr
  simpa [ajS] using this
 ·cases hd
theorem anE {w : World} {G : Gh} (hG : G.F = fun k => k < w.heap.size) (B : acX u ua) {r : Reach} {b0 : Nat} : ∀ {ts : List TypeId} {vs : List Value} {ds : List (DataW H)} {ps : List MemPlace} {kss : List (List CK)},
  ts.map (dty P aaI) = kss.map some → (∀ (j : Nat) t v, ts[j]? = some t → vs[j]? = some v → Value.okWide P w r b0 t v) → DataW.TrodAll enc P w 0 (fun _ => true) true ts vs ds ps → (∀ y ∈ DataW.weightsEach P ts ds, y ≤ reachBytes) →
  ∃ dss, AVRs G w (aau (ts.map (oG P)) dss) vs ∧ yU kss dss ∧ tD dss ≤ ua ds
 | [], [], [], ps, kss, hk, hv, h, hwt => by
  cases kss with
  | nil => exact ⟨[], .nil, trivial, by simp [tD]⟩
  | cons => simp at hk
 | t :: ts, v :: vs, d :: ds, ps, kss, hk, hv, h, hwt => by
  simp only [DataW.weightsEach, List.mem_append] at hwt
  cases kss with
  | nil => simp at hk
  | cons ks kss =>
   simp only [List.map_cons, List.cons.injEq] at hk
   obtain ⟨p, q, ht, hs, rfl⟩ := h
   obtain ⟨d1, a1, b1, c1⟩ := awD hG B hk.1 (hv 0 t v rfl rfl) ht (fun y hy => hwt y (.inl hy))
   obtain ⟨dss, a2, b2, c2⟩ := anE hG B hk.2 (fun j t v h1 h2 => hv (j + 1) t v (by simpa using h1) (by simpa using h2)) hs (fun y hy => hwt y (.inr hy))
   exact ⟨d1 :: dss, .cons _ _ _ _ a1 a2, ⟨b1, b2⟩, by simp only [tD, B.cons]; omega⟩
 | [], _ :: _, _, _, _, _, _, h, _ => by simp [DataW.TrodAll] at h
 | [], [], _ :: _, _, _, _, _, h, _ => by simp [DataW.TrodAll] at h
 | _ :: _, [], _, _, _, _, _, h, _ => by simp [DataW.TrodAll] at h
 | _ :: _, _ :: _, [], _, _, _, _, h, _ => by simp [DataW.TrodAll] at h
theorem akf : ∀ (bs : List Bool) (dss : List (List D)), AV.refsL (aau bs dss) = []
 | [], _ => by simp [aau, AV.refsL]
 | _ :: _, [] => by simp [aau, AV.refsL]
 | b :: bs, ds :: dss => by
  simp only [aau, AV.refsL, akf bs dss, List.append_nil]
  cases b
  ·simp only [ajS, Bool.false_eq_true, if_false]; split <;> simp [AV.refs]
  ·simp only [ajS, if_true, AV.refs]
   induction ds with
   | nil => simp [AV.refsL]
   | cons d ds ih => simp [AV.refsL, AV.refs, ih]
def gh0 (w : World) : Gh := ⟨fun k => k < w.heap.size, fun _ => 0, fun _ => .slice none 0 0, fun _ => 0, fun _ => 0⟩
theorem uO (l : Loc) : inSto [] [] l = .none := by simp [inSto, o6, cX, Sto.nil]
theorem aHP {w : World} {args : List AV} {vs : List Value} (h : AVRs (gh0 w) w args vs) (hr : AV.refsL args = []) : Ent w (gh0 w) args [] [] vs := by
 refine ⟨?_, h, by simp [hr]⟩
 have hb : ∀ l k, blk (gh0 w) (inSto [] []) l ≠ some k := by
  intro l k
  cases l <;> simp [blk, uO]
 refine ⟨⟨rfl, rfl, rfl, Nat.le_refl _, fun _ _ _ => rfl, fun _ h => h, fun _ h => h, fun _ h => .inl h⟩, rfl, rfl, ?_, ?_, ?_, ?_, ?_, ?_, ?_, ?_, ?_, ?_⟩
 ·intro i v h; rw [uO] at h; cases h
 ·intro b t n h; rw [uO] at h; cases h
 ·intro b o v h; rw [uO] at h; cases h
 ·intro r ks e by_ xs fz h; rw [uO] at h; cases h
 ·intro i s p h; rw [uO] at h; cases h
 ·intro l v h; rw [uO] at h; cases h
 ·intro l l' k h; exact absurd h (hb l k)
 ·intro l k h; exact absurd h (hb l k)
 ·intro r; rfl
 ·intro k t n h; rw [uO] at h; cases h
def axs : DataW Unit → List Value
 | .lit (.int k n) => [.int k n]
 | .lit (.bool b) => [.bool b]
 | .agg ps => flatDs ps
 | _ => []
where
 flatDs : List (DataW Unit) → List Value
  | [] => []
  | d :: r => axs d ++ flatDs r
def aDR (g : Nat) (d : DataW Unit) (h : Array Obj) : Array Obj := h.modify g fun
 | .cells _ t fr => .cells ⟨axs d⟩ t fr
 | o => o
def auE (P : Program) : List (String × DataW Unit) → Array Obj → Array Obj
 | [], h => h
 | x :: r, h => auE P r (match P.globalNamed x.1 with | some g => aDR g x.2 h | none => h)
def uM (P : Program) (laid : List (String × DataW Unit)) (os : Os) : World :=
 { World.holding P os ⟨#[], #[], []⟩ with heap := auE P laid (World.holding P os ⟨#[], #[], []⟩).heap }
theorem au3 {f : Func} {s : ChangeSpec} {apart fresh handsOn again : Bool} {W W' : World} {args : Array Value} {v : Value} {ds gs : List (DataW H)} {before pa pv : List MemPlace}
  (hW : DataW.Whole enc P f.params.toList s.vars apart W args.toList ds gs before)
  (hres : ∀ (b : Nat) (sp : Nat → Bool) (hd : Bool), DataW.TrodAll enc P W' b sp hd f.resultTypes.toList (v.resultList f.resultTypes.size) (s.fn H (ds ++ gs)).results [])
  (hargs : ∀ sp : Nat → Bool, (∀ p ∈ before, sp p.block = true) → DataW.TrodAll enc P W' 0 sp true f.params.toList args.toList (s.fn H (ds ++ gs)).args pa)
  (hvars : ∀ sp : Nat → Bool, (∀ p ∈ before, sp p.block = true) → DataW.TrodVars enc P W' sp s.vars (s.fn H (ds ++ gs)).vars pv)
  (hps : before = pa ++ pv) (hk : W.keptBut W' (· ∈ before)) (hfz : ∀ b off, b < W.heap.size → W'.frozen? ⟨b, off, none⟩ = W.frozen? ⟨b, off, none⟩)
  (hok : ∀ (j : Nat) (t : TypeId) (r : Value), f.resultTypes[j]? = some t → (v.resultList f.resultTypes.size)[j]? = some r → Value.okWide P W' .any 0 t r) :
  s.post enc P f apart fresh handsOn again W args v W' := by
 have hlt := hW.lt
 have hold : ∀ p ∈ before, (fun b => decide (b < W.heap.size)) p.block = true := fun p hp => by simpa using hlt p hp
 refine ⟨ds, gs, before, [], pa, pv, hW, hres _ _ _, hargs _ hold, hvars _ hold, World.keptBut_mono (fun p hp => ⟨hp, ?_⟩) hk, fun _ => ?_⟩
 ·rw [hps, List.mem_append] at hp
  exact Or.inr hp
 ·obtain ⟨_, _, _, _, _, hz, hn⟩ := hW
  refine ⟨hok, _, _, ([] ++ pa) ++ pv, ⟨[] ++ pa, pv, trodAll_append (hargs _ (fun _ _ => rfl)) (hres _ _ _), hvars _ (fun _ _ => rfl), rfl, ?_, ?_⟩, ?_⟩
  ·intro b off hp
   have hp' : MemPlace.cell b off ∈ before := by rw [hps]; simpa using hp
   rw [hfz b off (hlt _ hp')]
   exact hz b off hp'
  ·intro ha
   have := hn ha
   rw [hps] at this
   simpa using this
  ·intro p hp _
   rw [hps]
   simpa using hp
theorem aq3 {W W' : World} {may : MemPlace → Prop} (h1 : W'.os = W.os) (h2 : W'.output = W.output) (h3 : ∀ k, k < W.heap.size → W'.heap[k]? = W.heap[k]?) : W.keptBut W' may := by
 refine ⟨h1, h2, fun i hi => ?_⟩
 rw [h3 i hi]
 cases W.heap[i]? with
 | none => rfl
 | some o => cases o <;> first | exact ⟨rfl, rfl, rfl, fun _ _ => rfl⟩ | exact Or.inr ⟨rfl, rfl⟩ | rfl
theorem ad5 {E : Env} (EO : fS P E) (LO : ad0 P E) (B : acX u ua) {f : FuncId} {fn : Func} {s : ChangeSpec} {apart fresh handsOn again : Bool} {r : Reach} {kss : List (List CK)} {tb : TypeId}
  (W : World) (b0 : Nat) (args : Array Value) (ds gs : List (DataW H)) (before : List MemPlace)
  (hval : ∀ (j : Nat) t v, fn.params[j]? = some t → args[j]? = some v → Value.okWide P W r b0 t v)
  (hW : DataW.Whole enc P fn.params.toList s.vars apart W args.toList ds gs before)
  (hwt : (DataW.weightsEach P (fn.params.toList ++ s.plain.varTypes P) (ds ++ gs)).all (· ≤ reachBytes) = true)
  (hk : fn.params.toList.map (dty P aaI) = kss.map some) (hres : fn.resultTypes = #[tb]) (htb : P.underlying tb = some .bool) (hvars : s.vars = [])
  (hspec : ∀ ds : List (DataW H), ds.length = fn.params.size → s.fn H ds = { results := [.lit (.bool true)], args := ds })
  (law : ∀ dss, yU kss dss → tD dss ≤ ua (ds ++ gs) → bF E f (aau (fn.params.toList.map (oG P)) dss) [] [] = some (.ret [.d (.bool true)] [] [])) :
  Calls P f args W fun e W' => ∃ v, e = .returned v ∧ s.post enc P fn apart fresh handsOn again W args v W' := by
 have hW' := hW
 obtain ⟨p, q, hA, hV, rfl, hfz, hnd⟩ := hW
 rw [hvars] at hV
 cases gs with
 | cons g gs => simp [DataW.TrodVars] at hV
 | nil =>
  have hq : q = [] := by simpa [DataW.TrodVars] using hV
  subst hq
  obtain ⟨dss, h1, h2, h3⟩ := anE (G := gh0 W) (w := W) rfl B hk (fun j t v hj hv => hval j t v (by simpa using hj) (by simpa using hv)) hA (fun y hy => by
   have hlen0 := (trodAll_length hA).2
   have := List.all_eq_true.1 hwt y (by
    rw [List.append_nil]
    have hsub : ∀ (ts ts' : List TypeId) (ds : List (DataW H)), ds.length = ts.length → DataW.weightsEach P (ts ++ ts') ds = DataW.weightsEach P ts ds := by
     intro ts
     induction ts with
     | nil => intro ts' ds hl; cases ds with | nil => cases ts' <;> simp [DataW.weightsEach] | cons => simp at hl
     | cons t ts ih => intro ts' ds hl; cases ds with | nil => simp at hl | cons d ds => simp only [List.cons_append, DataW.weightsEach]; rw [ih ts' ds (by simpa using hl)]
    rw [hsub _ _ _ hlen0]; exact hy)
   simpa using this)
  have hc := law dss h2 (by simpa using h3)
  have hcall := aqX EO LO f _ _ _ _ hc W (gh0 W) args.toList (aHP h1 (akf _ _))
  have e : (⟨args.toList⟩ : Array Value) = args := by cases args; rfl
  rw [e] at hcall
  refine hcall.mono fun en W' hp => ?_
  cases en with
  | outgrown => exact hp.elim
  | panicked c => obtain ⟨_, v, hv, _⟩ := hp; cases hv
  | returned v =>
   obtain ⟨_, res, obs, ors, us, G', ho, hv, hF⟩ := hp
   cases ho
   have hu : us = [.bool true] := by
    have := hF.rvs
    cases this with
    | cons _ v _ vs h hs => cases hs; rw [h.vX]
   subst hu
   have hv' : v = .bool true := hv
   subst hv'
   have hbase := hF.rel.base
   have hnoM : ∀ k, ¬ (entCtx W (gh0 W) [] []).M k := by
    rintro k ⟨l, hl⟩
    cases l <;> simp [blk, uO] at hl
   have hold : ∀ k, k < W.heap.size → W'.heap[k]? = W.heap[k]? := fun k hk => hbase.keep k hk (hnoM k)
   have hDT : ∀ t ∈ fn.params.toList, DT P t := by
    intro t ht
    have : dty P aaI t ∈ kss.map some := by rw [← hk]; exact List.mem_map_of_mem ht
    obtain ⟨ks, _, hks⟩ := List.mem_map.1 this
    exact ⟨aaI, ks, hks.symm⟩
   have hcells : ∀ b off, b < W.heap.size → W'.cell? ⟨b, off, none⟩ = W.cell? ⟨b, off, none⟩ := fun b off hb => World.cell?_of_block (hold b hb)
   have hsame : ∀ x ∈ p ++ [], W.sameAt W' x := by
    intro x hx
    have hlt := hW'.lt x hx
    cases x with
    | cell b off => exact hcells b off hlt
    | map b => exact hold b hlt
   have hlen : ds.length = fn.params.size := by
    have := (trodAll_length hA).2
    simpa using this
   have hsp := hspec (ds ++ []) (by simpa using hlen)
   refine ⟨.bool true, rfl, au3 (pa := p) (pv := []) hW' (fun b sp hd => ?_) (fun sp hs => ?_) (fun sp hs => ?_) rfl (aq3 hbase.os hbase.output hold) (fun b off hb => ?_) ?_⟩
   ·rw [hsp, hres]
    exact ⟨[], [], shut_bool htb true, rfl, rfl⟩
   ·rw [hsp]
    simp only [List.append_nil]
    exact ahX hDT hA (fun x hx => hsame x (by simpa using hx)) (fun x hx => hs x (by simpa using hx))
   ·rw [hsp, hvars]; rfl
   ·unfold World.frozen?
    simp only [hold b hb]
   ·rw [hres]
    intro j t r hj hr
    cases j with
    | zero =>
     have e1 : tb = t := by simpa using hj
     have e2 : Value.bool true = r := by simpa [Value.resultList] using hr
     subst e1; subst e2
     exact okWide_bool_mk htb true
    | succ j => simp at hj
end
end PX
set_option linter.unusedVariables false
set_option linter.unusedSimpArgs false
namespace PX
open Go
def ar5 : CK → Value → Bool
 | .int k, .int k' n => kEq k k' && (n == 0)
 | .bool, .bool b => !b
 | .str, .string s => s.data.toList.isEmpty
 | .sl _, .slice none 0 0 => true
 | .ptr, .pointer none => true
 | .fn, .nilFunc => true
 | .ifc, .nilIface => true
 | _, _ => false
theorem avK {k : CK} {v : Value} (h : ar5 k v = true) : v = k.zeroV := by
 unfold ar5 at h
 split at h <;> first | (cases h; done) | skip
 ·simp only [Bool.and_eq_true] at h
  have := aeu h.1; subst this
  have := eq_of_beq h.2; subst this; rfl
 ·simp at h; subst h; rfl
 ·rename_i s
  have : s.data.toList = [] := by simpa using h
  have e : s = ⟨⟨[]⟩⟩ := by cases s with | mk d => cases d with | mk l => simp at this; subst this; rfl
  rw [e]; rfl
 all_goals rfl
def agr : List CK → List Value → Bool
 | [], [] => true
 | k :: ks, v :: vs => ar5 k v && agr ks vs
 | _, _ => false
theorem an0 : ∀ {ks : List CK} {vs : List Value}, agr ks vs = true → vs = ks.map CK.zeroV
 | [], [], _ => rfl
 | k :: ks, v :: vs, h => by
  simp only [agr, Bool.and_eq_true] at h
  rw [avK h.1, an0 h.2]; rfl
 | [], _ :: _, h => by simp [agr] at h
 | _ :: _, [], h => by simp [agr] at h
def acx (P : Program) : List (Nat × TypeId) → List Field → Bool
 | [], [] => true
 | (o, t) :: r, f :: fs => Nat.beq f.offset o && Nat.beq f.type t && (P.info? f.type).isSome && acx P r fs
 | _, _ => false
theorem aoa {P : Program} : ∀ {l : List (Nat × TypeId)} {fs : List Field}, acx P l fs = true → ∀ {i : Nat} {o : Nat} {t : TypeId}, l[i]? = some (o, t) → ∃ f, fs[i]? = some f ∧ f.offset = o ∧ f.type = t
 | [], _, _, i, o, t, h => by simp at h
 | _ :: _, [], h, _, _, _, _ => by simp [acx] at h
 | (o', t') :: r, f :: fs, h, i, o, t, hi => by
  simp only [acx, Bool.and_eq_true] at h
  cases i with
  | zero => simp at hi; exact ⟨f, rfl, by rw [Nat.eq_of_beq_eq_true h.1.1.1]; exact hi.1, by rw [Nat.eq_of_beq_eq_true h.1.1.2]; exact hi.2⟩
  | succ i => simpa using aoa h.2 (i := i) (by simpa using hi)
theorem ajb {P : Program} : ∀ {l : List (Nat × TypeId)} {fs : List Field}, acx P l fs = true → ∃ places, fs.mapM (fun f => (P.info? f.type).map fun i => (f.offset, i.size)) = some places ∧
  ∀ {i : Nat} {o : Nat} {t : TypeId}, l[i]? = some (o, t) → ∃ sz, places[i]? = some (o, sz) ∧ (P.info? t).map (·.size) = some sz
 | [], [], _ => ⟨[], by simp, by simp⟩
 | [], _ :: _, h => by simp [acx] at h
 | _ :: _, [], h => by simp [acx] at h
 | (o', t') :: r, f :: fs, h => by
  simp only [acx, Bool.and_eq_true] at h
  obtain ⟨pl, h1, h2⟩ := ajb h.2
  obtain ⟨inf, hinf⟩ := Option.isSome_iff_exists.1 h.1.2
  have e1 := Nat.eq_of_beq_eq_true h.1.1.1
  have e2 := Nat.eq_of_beq_eq_true h.1.1.2
  refine ⟨(f.offset, inf.size) :: pl, by simp [List.mapM_cons, hinf, h1], fun {i o t} hi => ?_⟩
  cases i with
  | zero => simp at hi; obtain ⟨rfl, rfl⟩ := hi; exact ⟨inf.size, by simp [e1], by rw [← e2, hinf]; rfl⟩
  | succ i => simpa using h2 (i := i) (by simpa using hi)
def aHq : TypeDesc → Bool | .struct _ | .array _ _ => true | _ => false
def azb : TypeDesc → Bool | .interface _ => true | _ => false
def ame (ti : TI) (d : TypeDesc) : Bool :=
 match ti.ks, ti.agg with
 | [.sl _], false => match d with | .slice e => Nat.beq e ti.elem | _ => false
 | [.str], false => match d with | .string => true | _ => false
 | [.bool], false => match d with | .bool => true | _ => false
 | [.int k], false => match d with | .int k' => kEq k k' | _ => false
 | _, _ => true
def tyB (P : Program) (t : TypeId) (ti : TI) : Bool :=
 match P.info? t, P.underlying t with
 | some i, some d => Nat.beq i.size ti.ks.length && Nat.beq i.bytes ti.bytes && (match i.zero with | some z => agr ti.ks z.cells.toList | none => false) && (aHq d == ti.agg) &&
   (ti.flds.isEmpty || (match d with | .struct fs => acx P ti.flds fs.toList | _ => false)) && ame ti d && (isIfc ti || !(azb d))
 | _, _ => false
theorem az8 {P : Program} {t : TypeId} {ti : TI} (h : tyB P t ti = true) : TyOK P t ti := by
 unfold tyB at h
 split at h
 ·rename_i i d hi hd
  simp only [Bool.and_eq_true] at h
  obtain ⟨⟨⟨⟨⟨⟨h1, h2⟩, h3⟩, h4⟩, h5⟩, h6⟩, h7⟩ := h
  have hf : ti.flds ≠ [] → ∃ fs, d = .struct fs ∧ acx P ti.flds fs.toList = true := by
   intro hne
   rcases Bool.or_eq_true_iff.1 h5 with h | h
   ·simp at h; exact absurd h hne
   ·split at h
    ·exact ⟨_, rfl, h⟩
    ·cases h
  refine ⟨⟨i, hi, Nat.eq_of_beq_eq_true h1, Nat.eq_of_beq_eq_true h2, ?_⟩, ⟨d, hd, ?_⟩, fun f off ft hff => ?_, fun hne => ?_, fun ks hk ha => ?_, fun hk ha => ?_, fun hk ha => ?_, fun k hk ha => ?_, fun hn d' hd' => ?_⟩
  ·split at h3
   ·rename_i z hz
    refine ⟨z, hz, ?_⟩
    rw [← an0 h3]
   ·cases h3
  ·have := eq_of_beq h4
   rw [← this]
   cases d <;> rfl
  ·obtain ⟨fs, rfl, hb⟩ := hf (by intro h; rw [h] at hff; simp at hff)
   obtain ⟨g, hg, e1, e2⟩ := aoa hb hff
   exact ⟨fs, g, hd, by simpa using hg, e1, e2⟩
  ·obtain ⟨fs, rfl, hb⟩ := hf hne
   obtain ⟨pl, p1, p2⟩ := ajb hb
   exact ⟨fs, pl, hd, p1, fun i off ft h => p2 h⟩
  ·unfold ame at h6
   rw [hk, ha] at h6
   cases d <;> simp only at h6 <;> first | (cases h6; done) | (rw [hd, Nat.eq_of_beq_eq_true h6])
  ·unfold ame at h6
   rw [hk, ha] at h6
   cases d <;> simp only at h6 <;> first | (cases h6; done) | exact hd
  ·unfold ame at h6
   rw [hk, ha] at h6
   cases d <;> simp only at h6 <;> first | (cases h6; done) | exact hd
  ·unfold ame at h6
   rw [hk, ha] at h6
   cases d <;> simp only at h6 <;> first | (cases h6; done) | (rw [hd, aeu h6])
  ·rw [hd] at hd'; cases hd'
   rw [hn] at h7
   cases d <;> first | rfl | (simp [azb] at h7)
 ·cases h
def scB (P : Program) (t : TypeId) : CK → Bool
 | .int ik => match P.underlying t with | some (.int k) => kEq k ik | _ => false
 | .bool => match P.underlying t with | some .bool => true | _ => false
 | .str => match P.underlying t with | some .string => true | _ => false
 | _ => false
theorem aB5 {P : Program} {t : TypeId} {k : CK} (h : scB P t k = true) : ScTy P t k := by
 cases k <;> simp only [scB] at h <;> first | (cases h; done) | (split at h <;> first | (cases h; done) | (rename_i hu; simp only [ScTy]; first | exact hu | (rw [hu, aeu h])))
def anw (P : Program) : Nat → List Field → List CK → Bool
 | _, [], [] => true
 | i, f :: fs, k :: ks => (f.name != "_") && Nat.beq f.offset i && scB P f.type k && anw P (i + 1) fs ks
 | _, _, _ => false
theorem arz {P : Program} : ∀ {fs : List Field} {n : Nat} {ks : List CK}, anw P n fs ks = true → fs.length = ks.length ∧ ∀ (i : Nat) (f : Field) (k : CK), fs[i]? = some f → ks[i]? = some k → f.name ≠ "_" ∧ f.offset = n + i ∧ ScTy P f.type k
 | [], _, [], _ => by simp
 | [], _, _ :: _, h => by simp [anw] at h
 | _ :: _, _, [], h => by simp [anw] at h
 | g :: fs, n, k' :: ks, h => by
  simp only [anw, Bool.and_eq_true] at h
  obtain ⟨a, b⟩ := arz h.2
  refine ⟨by simp [a], fun i f k hf hk => ?_⟩
  cases i with
  | zero =>
   simp at hf hk; subst hf; subst hk
   exact ⟨by simpa using h.1.1.1, by rw [Nat.eq_of_beq_eq_true h.1.1.2]; rfl, aB5 h.1.2⟩
  | succ i =>
   obtain ⟨c, d, e⟩ := b i f k (by simpa using hf) (by simpa using hk)
   exact ⟨c, by omega, e⟩
def eqB (P : Program) (t : TypeId) (ks : List CK) : Bool :=
 (match P.underlying t with | some (.struct fs) => anw P 0 fs.toList ks | _ => false) && !(P.stoodInHeld t) && !(P.eqGuardType P.depth t)
theorem aAO {P : Program} {t : TypeId} {ks : List CK} (h : eqB P t ks = true) : EqOK P t ks := by
 unfold eqB at h
 simp only [Bool.and_eq_true, Bool.not_eq_true'] at h
 refine ⟨?_, h.1.2, h.2⟩
 have h1 := h.1.1
 split at h1
 ·rename_i fs hu
  obtain ⟨a, b⟩ := arz h1
  exact ⟨fs, hu, a, fun i f k hf hk => by simpa using b i f k hf hk⟩
 ·cases h1
def akG {α : Type} (p : α → Prop) : List α → Prop
 | [] => True
 | a :: r => p a ∧ akG p r
theorem akG.mem {α : Type} {p : α → Prop} : ∀ {l : List α}, akG p l → ∀ a ∈ l, p a
 | [], _, a, h => by simp at h
 | x :: l, h, a, ha => by
  rcases List.mem_cons.1 ha with rfl | ha
  ·exact h.1
  ·exact akG.mem h.2 a ha
def aHU (P : Program) (x : Nat × Func) : Prop := P.funcs[x.1]? = some x.2 ∧ (x.2.name == "runtime.NumGoroutine") = false ∧ x.2.body.isNone = false
theorem azy {P : Program} {E : Env} {fnL : List (Nat × Func)} {tyL : List (Nat × TI)} {tmL : List (Nat × (List Sh × List (TypeId × List Sh)))} {eqL : List (Nat × List CK)}
  (hE : E.fn = assoc fnL ∧ E.ty = assoc tyL ∧ E.tm = assoc tmL ∧ E.eqt = assoc eqL) (hfn : akG (aHU P) fnL) (hty : (tyL.all fun x => tyB P x.1 x.2) = true) (heq : (eqL.all fun x => eqB P x.1 x.2) = true)
  (htm : (tmL.all fun x => fnL.any fun y => Nat.beq x.1 y.1) = true) (hm : P.follows .mixedOrders = true) {prL : List (Nat × Prim)} (hE2 : E.prim = assoc prL) (hpr : akG (fun x => PrimOK P x.1 x.2) prL) : fS P E := by
 obtain ⟨e1, e2, e3, e4⟩ := hE
 refine ⟨fun f fn h => ?_, fun f x h => ?_, fun t ti h => ?_, fun t ks h => ?_, hm, fun f p h => by rw [hE2] at h; exact hpr.mem _ (yO h)⟩
 ·rw [e1] at h; exact hfn.mem _ (yO h)
 ·rw [e3] at h
  have := List.all_eq_true.1 htm _ (yO h)
  obtain ⟨y, hy, hb⟩ := List.any_eq_true.1 this
  have := Nat.eq_of_beq_eq_true hb
  simp only at this
  subst this
  exact ⟨y.2, hfn.mem _ hy⟩
 ·rw [e2] at h; exact az8 (List.all_eq_true.1 hty _ (yO h))
 ·rw [e4] at h; exact aAO (List.all_eq_true.1 heq _ (yO h))
end PX
namespace PX
open Go
theorem w64 {x : Int} (h1 : -9223372036854775808 ≤ x) (h2 : x ≤ 9223372036854775807) : IntKind.wrap .i64 x = x := by
 simp only [IntKind.wrap, IntKind.bits, IntKind.signed]; simp; omega
theorem cF {i : Nat} (h : i < 9000000000000000000) : IntKind.wrap .i64 ((i : Int) + 1) = ((i + 1 : Nat) : Int) := by rw [w64 (by omega) (by omega)]; rfl
theorem hY : fuel = 1000000000000000000 := rfl
theorem aL {α : Type} {b : Bool} {x y : α} (h : b = true) : cond b x y = x := by subst h; rfl
theorem aS {α : Type} {b : Bool} {x y : α} (h : b = false) : cond b x y = y := by subst h; rfl
theorem eK {α β : Type} {x : Option α} {a : α} {k : α → Option β} (h : x = some a) : Option.bind x k = k a := by subst h; rfl
theorem cI {α : Type} [Inhabited α] {l : List α} {i : Nat} (h : i < l.length) : List.getD l (Int.toNat (i : Int)) default = l[i] := by
 rw [Int.toNat_natCast, List.getD_eq_getElem?_getD, List.getElem?_eq_getElem h]; rfl
theorem ajN {α : Type} {l : List α} {i : Nat} {d : α} (h : i < l.length) : List.getD l i d = l[i] := by
 rw [List.getD_eq_getElem?_getD, List.getElem?_eq_getElem h]; rfl
theorem inr {i n : Nat} (h : i < n) : (decide ((0 : Int) ≤ (i : Int)) && decide ((i : Int) < (n : Int))) = true := by simp; omega
theorem hI {i n : Nat} (h : i < n) : decide ((i : Int) < (n : Int)) = true := by simp; omega
theorem aaL {i n : Nat} (h : ¬ i < n) : decide ((i : Int) < (n : Int)) = false := by simp; omega
theorem auT {α : Type} {l : List α} {i : Nat} (h : i < l.length) : l.take i ++ [l[i]] = l.take (i + 1) := (List.take_succ_eq_append_getElem h).symm
theorem amr {s : Str} {i : Nat} (h : i < s.length) (ha : s[i].toNat < 128) : dec s i = (s[i].toNat, 1) := decode_ascii ⟨⟨s⟩⟩ i h ha
theorem aqn {s : Str} {j : Nat} (h : j < s.length) : (⟨⟨s⟩⟩ : ByteArray).get! j = s[j] := by
 show (⟨s⟩ : Array UInt8)[j]! = s[j]
 rw [getElem!_pos (⟨s⟩ : Array UInt8) j h]; rfl
theorem aiZ {s : Str} {i : Nat} (h : i < s.length) (ha : 128 ≤ s[i].toNat) :
  128 ≤ (dec s i).1 ∧ 1 ≤ (dec s i).2 ∧ i + (dec s i).2 ≤ s.length ∧ ∀ j, i < j → j < i + (dec s i).2 → ∃ hj : j < s.length, 128 ≤ s[j].toNat := by
 have h1 := decode_high ⟨⟨s⟩⟩ i h ha
 refine ⟨h1.1, h1.2, ?_⟩
 have cont : ∀ k, (decide (i + k < (⟨⟨s⟩⟩ : ByteArray).size) && ((⟨⟨s⟩⟩ : ByteArray).get! (i + k)).toNat / 64 == 2) = true → ∃ hj : i + k < s.length, 128 ≤ s[i + k].toNat := by
  intro k hk
  simp only [Bool.and_eq_true, decide_eq_true_eq] at hk
  have hj : i + k < s.length := hk.1
  refine ⟨hj, ?_⟩
  rw [aqn hj] at hk
  have := eq_of_beq hk.2
  omega
 have one : ∀ j, i < j → j < i + 1 → ∃ hj : j < s.length, 128 ≤ s[j].toNat := fun j a b => by omega
 unfold dec Utf8.decode
 simp only [Nat.add_zero, aqn h]
 split
 ·exact ⟨by simp; omega, one⟩
 ·split
  ·rename_i hc
   simp only [Bool.and_eq_true] at hc
   have c1 := cont 1 (by simpa using hc.2)
   split
   ·refine ⟨by obtain ⟨c, _⟩ := c1; simp; omega, fun j a b => ?_⟩
    obtain rfl : j = i + 1 := by simp at b; omega
    exact c1
   ·exact ⟨by simp; omega, one⟩
  ·split
   ·rename_i hc
    simp only [Bool.and_eq_true] at hc
    have c1 := cont 1 (by simpa using hc.1.2)
    have c2 := cont 2 (by simpa using hc.2)
    split
    ·refine ⟨by obtain ⟨c, _⟩ := c2; simp; omega, fun j a b => ?_⟩
     have : j = i + 1 ∨ j = i + 2 := by simp at b; omega
     rcases this with rfl | rfl
     ·exact c1
     ·exact c2
    ·exact ⟨by simp; omega, one⟩
   ·split
    ·rename_i hc
     simp only [Bool.and_eq_true] at hc
     have c1 := cont 1 (by simpa using hc.1.1.2)
     have c2 := cont 2 (by simpa using hc.1.2)
     have c3 := cont 3 (by simpa using hc.2)
     split
     ·refine ⟨by obtain ⟨c, _⟩ := c3; simp; omega, fun j a b => ?_⟩
      have : j = i + 1 ∨ j = i + 2 ∨ j = i + 3 := by simp at b; omega
      rcases this with rfl | rfl | rfl
      ·exact c1
      ·exact c2
      ·exact c3
     ·exact ⟨by simp; omega, one⟩
    ·exact ⟨by simp; omega, one⟩
theorem auh {s : Str} {i w : Nat} (hw : i + w ≤ s.length) (hh : ∀ j, i ≤ j → j < i + w → ∃ hj : j < s.length, 128 ≤ s[j].toNat) : ∃ t, s.drop i = t ++ s.drop (i + w) ∧ ∀ b ∈ t, 128 ≤ b.toNat := by
 refine ⟨(s.drop i).take w, by rw [← List.drop_drop]; exact (List.take_append_drop _ _).symm, fun b hb => ?_⟩
 obtain ⟨k, hk, rfl⟩ := List.getElem_of_mem hb
 simp at hk
 obtain ⟨hj, h⟩ := hh (i + k) (by omega) (by omega)
 simpa using h
theorem ald {s : Str} {i : Nat} (h : i < s.length) (ha : 128 ≤ s[i].toNat) : ∃ t, s.drop i = t ++ s.drop (i + (dec s i).2) ∧ ∀ b ∈ t, 128 ≤ b.toNat := by
 obtain ⟨_, _, h3, h4⟩ := aiZ h ha
 refine auh h3 fun j a b => ?_
 by_cases e : j = i
 ·subst e; exact ⟨h, ha⟩
 ·exact h4 j (by omega) b
theorem as6 {t r : Str} (h : ∀ b ∈ t, 128 ≤ b.toNat) {c : UInt8} (hc : c.toNat < 128) : (t ++ r).count c = r.count c := by
 rw [List.count_append, List.count_eq_zero.2 (fun hm => by have := h c hm; omega), Nat.zero_add]
theorem wT {t r : Str} (h : ∀ b ∈ t, 128 ≤ b.toNat) {c : UInt8} (hc : c.toNat < 128) : (t ++ r).contains c = r.contains c := by
 rw [Bool.eq_iff_iff]
 simp only [List.contains_iff_mem, List.mem_append]
 exact ⟨fun hm => hm.resolve_left (fun hm => by have := h c hm; omega), .inr⟩
end PX
namespace PX
theorem lN {α : Type} (b : Bool) (x y : α) : cond (!b) x y = cond b y x := by cases b <;> rfl
theorem aai {α : Type} (a b : Bool) (x y : α) : cond (a && b) x y = cond a (cond b x y) y := by cases a <;> rfl
theorem acC {α : Type} (a b : Bool) (x y : α) : cond (a || b) x y = cond a x (cond b x y) := by cases a <;> rfl
theorem eS {α : Type} (x y : α) : cond true x y = x := rfl
theorem eW {α : Type} (x y : α) : cond false x y = y := rfl
theorem iH {α β : Type} [BEq β] (a b : β) (x y : α) : cond (a != b) x y = cond (a == b) y x := by
 show cond (!(a == b)) x y = _; cases a == b <;> rfl
theorem adz {α : Type} (a b : Int) (x y : α) : cond (decide (a ≤ b)) x y = cond (decide (b < a)) y x := by
 by_cases h : a ≤ b
 ·rw [aL (by simpa using h), aS (by simp; omega)]
 ·rw [aS (by simpa using h), aL (by simp; omega)]
theorem ae1 {α : Type} (a b : Int) (x y : α) : cond (decide (a ≥ b)) x y = cond (decide (a < b)) y x := adz b a x y
theorem acJ {α : Type} (a b : Int) (x y : α) : cond (decide (a > b)) x y = cond (decide (b < a)) x y := rfl
theorem aY {α β : Type} (a : α) (k : α → Option β) : Option.bind (some a) k = k a := rfl
theorem yW {α β : Type} (b : Bool) (x y : Option α) (k : α → Option β) : Option.bind (cond b x y) k = cond b (Option.bind x k) (Option.bind y k) := by cases b <;> rfl
theorem wI {α : Type} (x : Option α) : Option.bind x (fun r => some r) = x := by cases x <;> rfl
theorem zH {α : Type} (b : Bool) (x : α) : cond b x x = x := by cases b <;> rfl
theorem adH (p : Prop) [Decidable p] : some (decide p) = cond (decide p) (some true) (some false) := by cases decide p <;> rfl
theorem afg (b : Bool) : some (!b) = cond b (some false) (some true) := by cases b <;> rfl
theorem vC (a b : Bool) : some (a && b) = cond a (some b) (some false) := by cases a <;> rfl
theorem afd (a b : Bool) : some (a || b) = cond a (some true) (some b) := by cases a <;> rfl
theorem afn {β : Type} [BEq β] (a b : β) : some (a == b) = cond (a == b) (some true) (some false) := by cases a == b <;> rfl
def fE (a b x : Int) : Bool := decide (a ≤ x) && decide (x ≤ b)
theorem yC {α : Type} (a b x : Int) (y z : α) : cond (decide (x < a)) y (cond (decide (b < x)) y z) = cond (fE a b x) z y := by
 by_cases h1 : x < a
 ·rw [aL (by simpa using h1), aS (by simp [fE]; omega)]
 ·by_cases h2 : b < x
  ·rw [aS (by simpa using h1), aL (by simpa using h2), aS (by simp [fE]; omega)]
  ·rw [aS (by simpa using h1), aS (by simpa using h2), aL (by simp [fE]; omega)]
theorem aht {a b x : Int} : fE a b x = true ↔ a ≤ x ∧ x ≤ b := by simp [fE]
theorem ajI {β : Type} [DecidableEq β] [BEq β] [LawfulBEq β] (a b : β) : (a == b) = decide (a = b) := by
 by_cases h : a = b <;> simp [h]
theorem apP (p q : Prop) [Decidable p] [Decidable q] : cond (decide p) (some (decide q)) (some false) = some (decide (p ∧ q)) := by
 by_cases h : p <;> by_cases h' : q <;> simp [h, h']
theorem aya (p : Prop) [Decidable p] : cond (decide p) (some false) (some false) = some false := by cases decide p <;> rfl
theorem awP {σ β : Type} (n : Nat) (F : Nat → Int → σ → Option β) (G : Nat → σ → Option β) (P : Nat → σ → Prop)
  (h0 : ∀ fu s, P n s → F (fu + 1) (n : Int) s = G n s)
  (h1 : ∀ fu i s, i < n → P i s → (∀ s', P (i + 1) s' → F fu ((i + 1 : Nat) : Int) s' = G (i + 1) s') → F (fu + 1) (i : Int) s = G i s) :
  ∀ (k i fu : Nat) (s : σ), i + k = n → k < fu → P i s → F fu (i : Int) s = G i s := by
 intro k
 induction k with
 | zero =>
  intro i fu s hi hf hp
  obtain ⟨fu, rfl⟩ : ∃ n, fu = n + 1 := ⟨fu - 1, by omega⟩
  obtain rfl : i = n := by omega
  exact h0 fu s hp
 | succ k ih =>
  intro i fu s hi hf hp
  obtain ⟨fu, rfl⟩ : ∃ n, fu = n + 1 := ⟨fu - 1, by omega⟩
  exact h1 fu i s (by omega) hp (fun s' hp' => ih (i + 1) fu s' (by omega) (by omega) hp')
theorem lR {σ β : Type} {n : Nat} {F : Nat → Int → σ → Option β} {G : Nat → σ → Option β} (P : Nat → σ → Prop)
  (h0 : ∀ fu s, P n s → F (fu + 1) (n : Int) s = G n s)
  (h1 : ∀ fu i s, i < n → P i s → (∀ s', P (i + 1) s' → F fu ((i + 1 : Nat) : Int) s' = G (i + 1) s') → F (fu + 1) (i : Int) s = G i s)
  (hn : n < 1000000000000000000) (s : σ) (hp : P 0 s) : F fuel 0 s = G 0 s :=
 awP n F G P h0 h1 n 0 fuel s (by omega) (by rw [hY]; omega) hp
theorem vT {α β : Type} {l : List α} {F : Nat → Int → Option β} {g : List α → Option β}
  (h0 : ∀ fu, F (fu + 1) (l.length : Int) = g [])
  (h1 : ∀ fu i (h : i < l.length), F fu ((i + 1 : Nat) : Int) = g (l.drop (i + 1)) → F (fu + 1) (i : Int) = g (l[i] :: l.drop (i + 1)))
  (hn : l.length < 1000000000000000000) : F fuel 0 = g l := by
 have := lR (n := l.length) (F := fun fu i (_ : Unit) => F fu i) (G := fun i _ => g (l.drop i)) (fun _ _ => True)
  (fun fu s _ => by rw [List.drop_length]; exact h0 fu) (fun fu i s h _ ih => by rw [List.drop_eq_getElem_cons h]; exact h1 fu i h (ih () trivial)) hn () trivial
 simpa using this
theorem uT {σ α β : Type} {l : List α} {F : Nat → Int → σ → Option β} {g : List α → σ → Option β} (P : Nat → σ → Prop)
  (h0 : ∀ fu s, P l.length s → F (fu + 1) (l.length : Int) s = g [] s)
  (h1 : ∀ fu i s (h : i < l.length), P i s → (∀ s', P (i + 1) s' → F fu ((i + 1 : Nat) : Int) s' = g (l.drop (i + 1)) s') → F (fu + 1) (i : Int) s = g (l[i] :: l.drop (i + 1)) s)
  (hn : l.length < 1000000000000000000) (s : σ) (hp : P 0 s) : F fuel 0 s = g l s := by
 have := lR (n := l.length) (F := F) (G := fun i s => g (l.drop i) s) P
  (fun fu s hs => by rw [List.drop_length]; exact h0 fu s hs) (fun fu i s h hs ih => by rw [List.drop_eq_getElem_cons h]; exact h1 fu i s h hs ih) hn s hp
 simpa using this
theorem at6 {α : Type} [DecidableEq α] {a b : α} {l r : List α} : some (decide (a :: l = b :: r)) = cond (decide (a = b)) (some (decide (l = r))) (some false) := by
 by_cases h : a = b
 ·rw [aL (by simpa using h)]; simp [h]
 ·rw [aS (by simpa using h)]; simp [h]
theorem ai5 {α : Type} [DecidableEq α] {a b : List α} {F : Nat → Int → Option Bool} (hl : a.length = b.length)
  (h0 : ∀ fu, F (fu + 1) (a.length : Int) = some true)
  (h1 : ∀ fu i (h : i < a.length) (h' : i < b.length), F (fu + 1) (i : Int) = cond (decide (a[i] = b[i])) (F fu ((i + 1 : Nat) : Int)) (some false))
  (hn : a.length < 1000000000000000000) : F fuel 0 = some (decide (a = b)) := by
 have := lR (n := a.length) (F := fun fu i (_ : Unit) => F fu i) (G := fun i _ => some (decide (a.drop i = b.drop i))) (fun _ _ => True)
  (fun fu s _ => by rw [List.drop_length, hl, List.drop_length]; simpa [hl] using h0 fu)
  (fun fu i s h _ ih => by
   have ih := ih () trivial
   have h2 : i < b.length := by omega
   rw [h1 fu i h h2, ih, List.drop_eq_getElem_cons h, List.drop_eq_getElem_cons h2, at6]) hn () trivial
 simpa using this
def okI (k : Go.IntKind) (x : Int) : Prop := (Go.Lit.int k x).wf = true
def okB (_ : Bool) : Prop := True
def okS (s : Str) : Prop := s.length ≤ 140737488351232
def okL {α : Type} (P : α → Prop) (l : List α) : Prop := l.length ≤ 140737488351232 ∧ ∀ x ∈ l, P x
theorem apZ {x : Int} (h : okI .i64 x) : -9223372036854775808 ≤ x ∧ x ≤ 9223372036854775807 := by
 simp only [okI, Go.Lit.wf, Go.IntKind.min, Go.IntKind.max, Go.IntKind.signed, Go.IntKind.bits, Bool.and_eq_true, decide_eq_true_eq, if_true] at h
 omega
theorem pW {α : Type} {P : α → Prop} {ks ks' : List CK} {f : α → List D} {l : List α} (hP : ∀ x, D.okL ks (f x) → P x) (h : D.ok (.sl ks) (.sl ks' (l.map f))) (hw : 1 ≤ wtL ks := by decide) : okL P l := by
 simp only [D.ok, List.length_map] at h
 obtain ⟨_, h1, h2⟩ := h
 refine ⟨?_, fun x hx => hP x (h2 _ (List.mem_map_of_mem hx))⟩
 have : l.length * 1 ≤ l.length * wtL ks := Nat.mul_le_mul_left _ hw
 simp only [agv] at h1
 omega
end PX
