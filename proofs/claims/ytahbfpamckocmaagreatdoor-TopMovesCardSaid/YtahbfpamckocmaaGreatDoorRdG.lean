import Derived.Test.YtahbfpamckocmaaGreatDoorRdF
import Derived.Test.YtahbfpamckocmaaGreatDoorNumE
set_option linter.unusedVariables false
set_option linter.unusedSimpArgs false
namespace PX
open Go
namespace Md
structure MsgD (m : aA) : Prop where
 t : m.Topic.length ≤ 64
 p : m.Payload.length ≤ 256
 l : i64 m.Level
 pr : i64 m.Priority
 ex : i64 m.Expires
 f : m.From.length ≤ 16
 sq : i64 m.Seq
 n : m.Props.length ≤ 8
 ps : ∀ x ∈ m.Props, x.Key.length ≤ 16 ∧ x.Value.length ≤ 160
theorem oG {x : Int} (h : okI .i64 x) : i64 x := anf h
theorem iX {x : Int} (h : i64 x) : okI .i64 x := rA h.1 h.2
theorem iR {x : Int} (h : i64 x) : eY gC (dO x) x := ada h.1 h.2
theorem pE {lim : Int} {n : Nat} {s : List UInt8} (h : s.length ≤ n) (hn : (n : Int) ≤ lim) (h2 : n ≤ 1000000) : eY (mQ lim) (lN s) s := alA (by omega) (by omega)
theorem abO (b : Bool) : eY w8 (dO (w7 b)) b := by
 have := aje (f := fun n : Int => n == 1) (ak7 (k := 2) (x := w7 b) (by cases b <;> decide) (by cases b <;> decide) (by cases b <;> decide))
 have e : (w7 b == 1) = b := by cases b <;> rfl
 rw [e] at this
 exact this
theorem ae0 : o9 w8 (fun b => dO (w7 b)) (fun _ => True) := fun l b q hb h => by
 obtain ⟨n, m, h1, h2⟩ := bW h
 obtain ⟨⟨a, c, _⟩, e⟩ := amh 2 l n m hb h1
 injection h2 with h2 h3
 subst h2 h3
 refine ⟨trivial, ?_⟩
 rw [e]
 have : n = 0 ∨ n = 1 := by omega
 rcases this with rfl | rfl <;> rfl
theorem vD {α β : Type} {r : Rd α} {f : α → Rd β} {b : List Int} {x : α} {y : β} (h1 : eY r b x) (h2 : ∀ q, f x q = .ok y q) : eY (bN r f) b y := fun q => by rw [tA (h1 q)]; exact h2 q
theorem alN {x : aD} (h : x.Key.length ≤ 16 ∧ x.Value.length ≤ 160) : eY afl (lN x.Key ++ lN x.Value) x :=
 c7 (pE h.1 (by decide) (by decide)) (vD (pE h.2 (by decide) (by decide)) fun _ => rfl)
theorem anR : o9 afl (fun x => lN x.Key ++ lN x.Value) (fun x => x.Key.length ≤ 16 ∧ x.Value.length ≤ 160) := fun l x q hb h => by
 obtain ⟨k, l1, h1, g1⟩ := bW h
 obtain ⟨d1, e1⟩ := qO 16 l k l1 hb h1
 subst e1
 obtain ⟨v, l2, h2, g2⟩ := bW g1
 obtain ⟨d2, e2⟩ := qO 160 l1 v l2 (cL hb) h2
 subst e2
 injection g2 with h h'
 subst h h'
 dsimp only at *
 exact ⟨⟨by omega, by omega⟩, by simp⟩
theorem ano {m : aA} (h : MsgD m) : eY ais (pR m) m := by
 unfold ais ac1 pR p7
 refine c7 (pE h.t (by decide) (by decide)) ?_
 refine c7 (pE h.p (by decide) (by decide)) ?_
 refine c7 (iR h.l) ?_
 refine c7 (abO m.Retain) ?_
 refine c7 (iR h.pr) ?_
 refine c7 (iR h.ex) ?_
 refine c7 (pE h.f (by decide) (by decide)) ?_
 refine c7 (iR h.sq) ?_
 have hn := h.n
 refine c7 (tC (by omega) (by omega) (by omega)) ?_
 rw [Int.toNat_natCast]
 exact vD (ab0 fun x hx => alN (h.ps x hx)) fun _ => rfl
theorem ao4 : o9 ais pR MsgD := fun l x q hb h => by
 unfold ais ac1 at h
 obtain ⟨t, l1, h1, g1⟩ := bW h
 obtain ⟨d1, e1⟩ := qO 64 l t l1 hb h1
 subst e1
 have hb := cL hb
 obtain ⟨p, l2, h2, g2⟩ := bW g1
 obtain ⟨d2, e2⟩ := qO 256 l1 p l2 hb h2
 subst e2
 have hb := cL hb
 obtain ⟨lv, l3, h3, g3⟩ := bW g2
 obtain ⟨d3, e3⟩ := iV l2 lv l3 hb h3
 subst e3
 have hb := cL hb
 obtain ⟨rt, l4, h4, g4⟩ := bW g3
 obtain ⟨d4, e4⟩ := ae0 l3 rt l4 hb h4
 subst e4
 have hb := cL hb
 obtain ⟨pr, l5, h5, g5⟩ := bW g4
 obtain ⟨d5, e5⟩ := iV l4 pr l5 hb h5
 subst e5
 have hb := cL hb
 obtain ⟨ex, l6, h6, g6⟩ := bW g5
 obtain ⟨d6, e6⟩ := iV l5 ex l6 hb h6
 subst e6
 have hb := cL hb
 obtain ⟨fr, l7, h7, g7⟩ := bW g6
 obtain ⟨d7, e7⟩ := qO 16 l6 fr l7 hb h7
 subst e7
 have hb := cL hb
 obtain ⟨sq, l8, h8, g8⟩ := bW g7
 obtain ⟨d8, e8⟩ := iV l7 sq l8 hb h8
 subst e8
 have hb := cL hb
 obtain ⟨n, l9, h9, g9⟩ := bW g8
 obtain ⟨d9, e9⟩ := acE 8 l8 n l9 hb h9
 subst e9
 have hb := cL hb
 obtain ⟨ps, l10, h10, g10⟩ := bW g9
 obtain ⟨d10, e10⟩ := aeG anR _ l9 ps l10 hb h10
 subst e10
 have hb := cL hb
 injection g10 with h h'
 subst h h'
 obtain ⟨k1, k2, _⟩ := d9
 obtain ⟨k3, k4⟩ := d10
 have en : ((ps.length : Nat) : Int) = n := by omega
 refine ⟨⟨by dsimp only; omega, by dsimp only; omega, d3, d5, d6, by dsimp only; omega, d8, by dsimp only; omega, k4⟩, ?_⟩
 unfold pR p7
 dsimp only
 rw [en]
 simp only [List.append_assoc]
 rfl
theorem abP {m : aA} (h : MsgD m) (hc : checkM m = 0) : eY pW (pR m) m := by
 unfold pW
 rw [akR]
 refine vD (ano h) fun q => ?_
 unfold aiv
 rw [dif_pos hc]; rfl
theorem aea : o9 pW pR (fun m => MsgD m ∧ checkM m = 0) := fun l x q hb h => by
 unfold pW at h
 rw [akR] at h
 obtain ⟨m, l1, h1, g1⟩ := bW h
 obtain ⟨d1, e1⟩ := ao4 l m l1 hb h1
 unfold aiv at g1
 by_cases c : checkM m = 0
 ·rw [dif_pos c] at g1
  injection g1 with h h'
  subst h h'
  exact ⟨⟨d1, c⟩, e1⟩
 ·rw [dif_neg c] at g1; cases g1
def SubD (x : aG) : Prop := x.Filter.length ≤ 88 ∧ i64 x.Level
theorem anr {x : aG} (h : SubD x) : eY aen (v8 x) x :=
 c7 (pE h.1 (by decide) (by decide)) (c7 (iR h.2) (vD (abO x.NoLocal) fun _ => rfl))
theorem apM : o9 aen v8 SubD := fun l x q hb h => by
 unfold aen at h
 obtain ⟨f, l1, h1, g1⟩ := bW h
 obtain ⟨d1, e1⟩ := qO 88 l f l1 hb h1
 subst e1
 have hb := cL hb
 obtain ⟨lv, l2, h2, g2⟩ := bW g1
 obtain ⟨d2, e2⟩ := iV l1 lv l2 hb h2
 subst e2
 have hb := cL hb
 obtain ⟨nl, l3, h3, g3⟩ := bW g2
 obtain ⟨d3, e3⟩ := ae0 l2 nl l3 hb h3
 subst e3
 have hb := cL hb
 injection g3 with h h'
 subst h h'
 exact ⟨⟨by dsimp only; omega, d2⟩, by simp [v8]⟩
def FlightD (x : aB) : Prop := i64 x.ID ∧ i64 x.State ∧ MsgD x.Message ∧ checkM x.Message = 0
theorem ajI {x : aB} (h : FlightD x) : eY vM (mR x) x :=
 c7 (iR h.1) (c7 (iR h.2.1) (vD (abP h.2.2.1 h.2.2.2) fun _ => rfl))
theorem alK : o9 vM mR FlightD := fun l x q hb h => by
 unfold vM at h
 obtain ⟨i, l1, h1, g1⟩ := bW h
 obtain ⟨d1, e1⟩ := iV l i l1 hb h1
 subst e1
 have hb := cL hb
 obtain ⟨st, l2, h2, g2⟩ := bW g1
 obtain ⟨d2, e2⟩ := iV l1 st l2 hb h2
 subst e2
 have hb := cL hb
 obtain ⟨m, l3, h3, g3⟩ := bW g2
 obtain ⟨d3, e3⟩ := aea l2 m l3 hb h3
 subst e3
 have hb := cL hb
 injection g3 with h h'
 subst h h'
 exact ⟨⟨d1, d2, d3.1, d3.2⟩, by simp [mR]⟩
def WillD (w : aV) : Prop := (w.Set = true → i64 w.Delay ∧ MsgD w.Message ∧ checkM w.Message = 0) ∧ (w.Set = false → w = ⟨false, 0, lP⟩)
theorem alv {w : aV} (h : WillD w) : eY (adi w.Set) (w4 w) w := by
 unfold w4 adi
 cases hs : w.Set with
 | false =>
  intro q
  have := h.2 hs
  rw [this]
  rfl
 | true =>
  obtain ⟨h1, h2, h3⟩ := h.1 hs
  refine c7 (iR h1) (vD (abP h2 h3) fun q => ?_)
  rw [← hs]; rfl
theorem aoE (b : Bool) : o9 (adi b) w4 (fun w => WillD w ∧ w.Set = b) := fun l x q hb h => by
 unfold adi at h
 cases b with
 | false =>
  injection h with h h'
  subst h h'
  exact ⟨⟨⟨(fun h => by cases h), fun _ => rfl⟩, rfl⟩, rfl⟩
 | true =>
  rw [cS] at h
  obtain ⟨d, l1, h1, g1⟩ := bW h
  obtain ⟨d1, e1⟩ := iV l d l1 hb h1
  subst e1
  have hb := cL hb
  obtain ⟨m, l2, h2, g2⟩ := bW g1
  obtain ⟨d2, e2⟩ := aea l1 m l2 hb h2
  subst e2
  have hb := cL hb
  injection g2 with h h'
  subst h h'
  exact ⟨⟨⟨fun _ => ⟨d1, d2.1, d2.2⟩, (fun h => by cases h)⟩, rfl⟩, by simp [w4]⟩
structure yC (s : aC) : Prop where
 c : s.Client.length ≤ 16
 u : s.User.length ≤ 16
 on : s.Online = false
 cn : s.Conn = 0
 ex : i64 s.Expiry
 un : i64 s.Until
 dr : i64 s.Dropped
 sn : s.Subs.length ≤ 32
 ss : ∀ x ∈ s.Subs, SubD x
 qn : s.Queue.length ≤ 256
 qs : ∀ x ∈ s.Queue, MsgD x ∧ checkM x = 0
 li : i64 s.Out.Limit
 iN : s.Out.Items.length ≤ 32
 is : ∀ x ∈ s.Out.Items, FlightD x
 pn : s.Out.Pool.Used.length ≤ 32
 ps : ∀ x ∈ s.Out.Pool.Used, i64 x
 la : i64 s.Out.Pool.Last
 dn : s.In.IDs.length ≤ 32
 ds : ∀ x ∈ s.In.IDs, i64 x
 w : WillD s.Will
theorem tD {α : Type} {one : Rd α} {w : α → List Int} {lim : Int} {l : List α} (n : Nat) (hl : l.length ≤ n) (hn : (n : Int) ≤ lim) (h2 : n ≤ 1000000) (h : ∀ x ∈ l, eY one (w x) x) : eY (mS lim one) (mE w l) l :=
 alw (by omega) (by omega) h
theorem alO {s : aC} (h : yC s) : eY rD (qX s) s := by
 unfold rD qX
 refine c7 (pE h.c (by decide) (by decide)) ?_
 refine c7 (pE h.u (by decide) (by decide)) ?_
 refine c7 (iR h.ex) ?_
 refine c7 (iR h.un) ?_
 refine c7 (iR h.dr) ?_
 refine c7 (tD 32 h.sn (by decide) (by decide) fun x hx => anr (h.ss x hx)) ?_
 refine c7 (tD 256 h.qn (by decide) (by decide) fun x hx => abP (h.qs x hx).1 (h.qs x hx).2) ?_
 refine c7 (iR h.li) ?_
 refine c7 (tD 32 h.iN (by decide) (by decide) fun x hx => ajI (h.is x hx)) ?_
 refine c7 (tD 32 h.pn (by decide) (by decide) fun x hx => iR (h.ps x hx)) ?_
 refine c7 (iR h.la) ?_
 refine c7 (tD 32 h.dn (by decide) (by decide) fun x hx => iR (h.ds x hx)) ?_
 refine c7 (abO s.Will.Set) ?_
 refine vD (alv h.w) fun q => ?_
 obtain ⟨a, b, on, cn, c, d, e, f, g, ⟨o1, o2, ⟨o3, o4⟩⟩, ⟨i⟩, w⟩ := s
 have h1 : on = false := h.on
 have h2 : cn = 0 := h.cn
 rw [h1, h2]; rfl
theorem ajl : o9 rD qX yC := fun l x q hb h => by
 unfold rD at h
 obtain ⟨c, l1, h1, g1⟩ := bW h
 obtain ⟨d1, e1⟩ := qO 16 l c l1 hb h1
 subst e1
 have hb := cL hb
 obtain ⟨u, l2, h2, g2⟩ := bW g1
 obtain ⟨d2, e2⟩ := qO 16 l1 u l2 hb h2
 subst e2
 have hb := cL hb
 obtain ⟨ex, l3, h3, g3⟩ := bW g2
 obtain ⟨d3, e3⟩ := iV l2 ex l3 hb h3
 subst e3
 have hb := cL hb
 obtain ⟨un, l4, h4, g4⟩ := bW g3
 obtain ⟨d4, e4⟩ := iV l3 un l4 hb h4
 subst e4
 have hb := cL hb
 obtain ⟨dr, l5, h5, g5⟩ := bW g4
 obtain ⟨d5, e5⟩ := iV l4 dr l5 hb h5
 subst e5
 have hb := cL hb
 obtain ⟨ss, l6, h6, g6⟩ := bW g5
 obtain ⟨d6, e6⟩ := y0 apM l5 ss l6 hb h6
 subst e6
 have hb := cL hb
 obtain ⟨qs, l7, h7, g7⟩ := bW g6
 obtain ⟨d7, e7⟩ := y0 aea l6 qs l7 hb h7
 subst e7
 have hb := cL hb
 obtain ⟨li, l8, h8, g8⟩ := bW g7
 obtain ⟨d8, e8⟩ := iV l7 li l8 hb h8
 subst e8
 have hb := cL hb
 obtain ⟨is, l9, h9, g9⟩ := bW g8
 obtain ⟨d9, e9⟩ := y0 alK l8 is l9 hb h9
 subst e9
 have hb := cL hb
 obtain ⟨us, l10, h10, g10⟩ := bW g9
 obtain ⟨d10, e10⟩ := y0 iV l9 us l10 hb h10
 subst e10
 have hb := cL hb
 obtain ⟨la, l11, h11, g11⟩ := bW g10
 obtain ⟨d11, e11⟩ := iV l10 la l11 hb h11
 subst e11
 have hb := cL hb
 obtain ⟨ds, l12, h12, g12⟩ := bW g11
 obtain ⟨d12, e12⟩ := y0 iV l11 ds l12 hb h12
 subst e12
 have hb := cL hb
 obtain ⟨fl, l13, h13, g13⟩ := bW g12
 obtain ⟨d13, e13⟩ := ae0 l12 fl l13 hb h13
 subst e13
 have hb := cL hb
 obtain ⟨w, l14, h14, g14⟩ := bW g13
 obtain ⟨d14, e14⟩ := aoE _ l13 w l14 hb h14
 subst e14
 have hb := cL hb
 injection g14 with h h'
 subst h h'
 obtain ⟨k1, k2⟩ := d14
 refine ⟨⟨by dsimp only; omega, by dsimp only; omega, rfl, rfl, d3, d4, d5, by have := d6.1; dsimp only; omega, d6.2, by have := d7.1; dsimp only; omega, d7.2, d8, by have := d9.1; dsimp only; omega, d9.2, by have := d10.1; dsimp only; omega, d10.2, d11, by have := d12.1; dsimp only; omega, d12.2, k1⟩, ?_⟩
 unfold qX mE
 dsimp only
 rw [k2]
 simp only [List.append_assoc]
end Md
end PX
