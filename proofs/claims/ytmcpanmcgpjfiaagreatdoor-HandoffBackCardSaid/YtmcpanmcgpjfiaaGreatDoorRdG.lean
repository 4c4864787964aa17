import Derived.Test.YtmcpanmcgpjfiaaGreatDoorRdF
import Derived.Test.YtmcpanmcgpjfiaaGreatDoorNumE
set_option linter.unusedVariables false
set_option linter.unusedSimpArgs false
namespace PX
open Go
namespace Md
structure MsgD (m : aC) : Prop where
 t : m.Topic.length ≤ 64
 p : m.Payload.length ≤ 256
 l : i64 m.Level
 pr : i64 m.Priority
 ex : i64 m.Expires
 f : m.From.length ≤ 16
 sq : i64 m.Seq
 n : m.Props.length ≤ 8
 ps : ∀ x ∈ m.Props, x.Key.length ≤ 16 ∧ x.Value.length ≤ 160
theorem sY {x : Int} (h : okI .i64 x) : i64 x := apZ h
theorem lI {x : Int} (h : i64 x) : okI .i64 x := qY h.1 h.2
theorem k8 {x : Int} (h : i64 x) : gD fP (cO x) x := agY h.1 h.2
theorem uU {lim : Int} {n : Nat} {s : List UInt8} (h : s.length ≤ n) (hn : (n : Int) ≤ lim) (h2 : n ≤ 1000000) : gD (oJ lim) (gQ s) s := aqI (by omega) (by omega)
theorem afz (b : Bool) : gD xJ (cO (yM b)) b := by
 have := an7 (f := fun n : Int => n == 1) (ap1 (k := 2) (x := yM b) (by cases b <;> decide) (by cases b <;> decide) (by cases b <;> decide))
 have e : (yM b == 1) = b := by cases b <;> rfl
 rw [e] at this
 exact this
theorem aiS : uP xJ (fun b => cO (yM b)) (fun _ => True) := fun l b q hb h => by
 obtain ⟨n, m, h1, h2⟩ := cL h
 obtain ⟨⟨a, c, _⟩, e⟩ := as8 2 l n m hb h1
 injection h2 with h2 h3
 subst h2 h3
 refine ⟨trivial, ?_⟩
 rw [e]
 have : n = 0 ∨ n = 1 := by omega
 rcases this with rfl | rfl <;> rfl
theorem aaF {α β : Type} {r : Rd α} {f : α → Rd β} {b : List Int} {x : α} {y : β} (h1 : gD r b x) (h2 : ∀ q, f x q = .ok y q) : gD (bU r f) b y := fun q => by rw [yK (h1 q)]; exact h2 q
theorem aqM {x : aG} (h : x.Key.length ≤ 16 ∧ x.Value.length ≤ 160) : gD ae5 (gQ x.Key ++ gQ x.Value) x :=
 dR (uU h.1 (by decide) (by decide)) (aaF (uU h.2 (by decide) (by decide)) fun _ => rfl)
theorem atU : uP ae5 (fun x => gQ x.Key ++ gQ x.Value) (fun x => x.Key.length ≤ 16 ∧ x.Value.length ≤ 160) := fun l x q hb h => by
 obtain ⟨k, l1, h1, g1⟩ := cL h
 obtain ⟨d1, e1⟩ := vV 16 l k l1 hb h1
 subst e1
 obtain ⟨v, l2, h2, g2⟩ := cL g1
 obtain ⟨d2, e2⟩ := vV 160 l1 v l2 (dC hb) h2
 subst e2
 injection g2 with h h'
 subst h h'
 dsimp only at *
 exact ⟨⟨by omega, by omega⟩, by simp⟩
theorem asq {m : aC} (h : MsgD m) : gD ajH (pL m) m := by
 unfold ajH ae7 pL oL
 refine dR (uU h.t (by decide) (by decide)) ?_
 refine dR (uU h.p (by decide) (by decide)) ?_
 refine dR (k8 h.l) ?_
 refine dR (afz m.Retain) ?_
 refine dR (k8 h.pr) ?_
 refine dR (k8 h.ex) ?_
 refine dR (uU h.f (by decide) (by decide)) ?_
 refine dR (k8 h.sq) ?_
 have hn := h.n
 refine dR (yX (by omega) (by omega) (by omega)) ?_
 rw [Int.toNat_natCast]
 exact aaF (afF fun x hx => aqM (h.ps x hx)) fun _ => rfl
theorem awI : uP ajH pL MsgD := fun l x q hb h => by
 unfold ajH ae7 at h
 obtain ⟨t, l1, h1, g1⟩ := cL h
 obtain ⟨d1, e1⟩ := vV 64 l t l1 hb h1
 subst e1
 have hb := dC hb
 obtain ⟨p, l2, h2, g2⟩ := cL g1
 obtain ⟨d2, e2⟩ := vV 256 l1 p l2 hb h2
 subst e2
 have hb := dC hb
 obtain ⟨lv, l3, h3, g3⟩ := cL g2
 obtain ⟨d3, e3⟩ := k9 l2 lv l3 hb h3
 subst e3
 have hb := dC hb
 obtain ⟨rt, l4, h4, g4⟩ := cL g3
 obtain ⟨d4, e4⟩ := aiS l3 rt l4 hb h4
 subst e4
 have hb := dC hb
 obtain ⟨pr, l5, h5, g5⟩ := cL g4
 obtain ⟨d5, e5⟩ := k9 l4 pr l5 hb h5
 subst e5
 have hb := dC hb
 obtain ⟨ex, l6, h6, g6⟩ := cL g5
 obtain ⟨d6, e6⟩ := k9 l5 ex l6 hb h6
 subst e6
 have hb := dC hb
 obtain ⟨fr, l7, h7, g7⟩ := cL g6
 obtain ⟨d7, e7⟩ := vV 16 l6 fr l7 hb h7
 subst e7
 have hb := dC hb
 obtain ⟨sq, l8, h8, g8⟩ := cL g7
 obtain ⟨d8, e8⟩ := k9 l7 sq l8 hb h8
 subst e8
 have hb := dC hb
 obtain ⟨n, l9, h9, g9⟩ := cL g8
 obtain ⟨d9, e9⟩ := ahh 8 l8 n l9 hb h9
 subst e9
 have hb := dC hb
 obtain ⟨ps, l10, h10, g10⟩ := cL g9
 obtain ⟨d10, e10⟩ := aio atU _ l9 ps l10 hb h10
 subst e10
 have hb := dC hb
 injection g10 with h h'
 subst h h'
 obtain ⟨k1, k2, _⟩ := d9
 obtain ⟨k3, k4⟩ := d10
 have en : ((ps.length : Nat) : Int) = n := by omega
 refine ⟨⟨by dsimp only; omega, by dsimp only; omega, d3, d5, d6, by dsimp only; omega, d8, by dsimp only; omega, k4⟩, ?_⟩
 unfold pL oL
 dsimp only
 rw [en]
 simp only [List.append_assoc]
 rfl
theorem afV {m : aC} (h : MsgD m) (hc : checkM m = 0) : gD tO (pL m) m := by
 unfold tO
 rw [ak5]
 refine aaF (asq h) fun q => ?_
 unfold alf
 rw [dif_pos hc]; rfl
theorem ai9 : uP tO pL (fun m => MsgD m ∧ checkM m = 0) := fun l x q hb h => by
 unfold tO at h
 rw [ak5] at h
 obtain ⟨m, l1, h1, g1⟩ := cL h
 obtain ⟨d1, e1⟩ := awI l m l1 hb h1
 unfold alf at g1
 by_cases c : checkM m = 0
 ·rw [dif_pos c] at g1
  injection g1 with h h'
  subst h h'
  exact ⟨⟨d1, c⟩, e1⟩
 ·rw [dif_neg c] at g1; cases g1
def SubD (x : aK) : Prop := x.Filter.length ≤ 88 ∧ i64 x.Level
theorem asd {x : aK} (h : SubD x) : gD adZ (zB x) x :=
 dR (uU h.1 (by decide) (by decide)) (dR (k8 h.2) (aaF (afz x.NoLocal) fun _ => rfl))
theorem av0 : uP adZ zB SubD := fun l x q hb h => by
 unfold adZ at h
 obtain ⟨f, l1, h1, g1⟩ := cL h
 obtain ⟨d1, e1⟩ := vV 88 l f l1 hb h1
 subst e1
 have hb := dC hb
 obtain ⟨lv, l2, h2, g2⟩ := cL g1
 obtain ⟨d2, e2⟩ := k9 l1 lv l2 hb h2
 subst e2
 have hb := dC hb
 obtain ⟨nl, l3, h3, g3⟩ := cL g2
 obtain ⟨d3, e3⟩ := aiS l2 nl l3 hb h3
 subst e3
 have hb := dC hb
 injection g3 with h h'
 subst h h'
 exact ⟨⟨by dsimp only; omega, d2⟩, by simp [zB]⟩
def FlightD (x : aE) : Prop := i64 x.ID ∧ i64 x.State ∧ MsgD x.Message ∧ checkM x.Message = 0
theorem aos {x : aE} (h : FlightD x) : gD tY (j4 x) x :=
 dR (k8 h.1) (dR (k8 h.2.1) (aaF (afV h.2.2.1 h.2.2.2) fun _ => rfl))
theorem ard : uP tY j4 FlightD := fun l x q hb h => by
 unfold tY at h
 obtain ⟨i, l1, h1, g1⟩ := cL h
 obtain ⟨d1, e1⟩ := k9 l i l1 hb h1
 subst e1
 have hb := dC hb
 obtain ⟨st, l2, h2, g2⟩ := cL g1
 obtain ⟨d2, e2⟩ := k9 l1 st l2 hb h2
 subst e2
 have hb := dC hb
 obtain ⟨m, l3, h3, g3⟩ := cL g2
 obtain ⟨d3, e3⟩ := ai9 l2 m l3 hb h3
 subst e3
 have hb := dC hb
 injection g3 with h h'
 subst h h'
 exact ⟨⟨d1, d2, d3.1, d3.2⟩, by simp [j4]⟩
def WillD (w : bM) : Prop := (w.Set = true → i64 w.Delay ∧ MsgD w.Message ∧ checkM w.Message = 0) ∧ (w.Set = false → w = ⟨false, 0, pS⟩)
theorem aqL {w : bM} (h : WillD w) : gD (adm w.Set) (zN w) w := by
 unfold zN adm
 cases hs : w.Set with
 | false =>
  intro q
  have := h.2 hs
  rw [this]
  rfl
 | true =>
  obtain ⟨h1, h2, h3⟩ := h.1 hs
  refine dR (k8 h1) (aaF (afV h2 h3) fun q => ?_)
  rw [← hs]; rfl
theorem atW (b : Bool) : uP (adm b) zN (fun w => WillD w ∧ w.Set = b) := fun l x q hb h => by
 unfold adm at h
 cases b with
 | false =>
  injection h with h h'
  subst h h'
  exact ⟨⟨⟨(fun h => by cases h), fun _ => rfl⟩, rfl⟩, rfl⟩
 | true =>
  rw [eS] at h
  obtain ⟨d, l1, h1, g1⟩ := cL h
  obtain ⟨d1, e1⟩ := k9 l d l1 hb h1
  subst e1
  have hb := dC hb
  obtain ⟨m, l2, h2, g2⟩ := cL g1
  obtain ⟨d2, e2⟩ := ai9 l1 m l2 hb h2
  subst e2
  have hb := dC hb
  injection g2 with h h'
  subst h h'
  exact ⟨⟨⟨fun _ => ⟨d1, d2.1, d2.2⟩, (fun h => by cases h)⟩, rfl⟩, by simp [zN]⟩
structure acG (s : aI) : Prop where
 c : s.Client.length ≤ 16
 u : s.User.length ≤ 16
 on : s.Online = false
 cn : s.Conn = 0
 ex : i64 s.Expiry
 un : i64 s.Until
 dr : i64 s.Dropped
 sn : s.Subs.length ≤ 32
 ss : ∀ x ∈ s.Subs, SubD x
 qn : s.Queue.length ≤ 256
 qs : ∀ x ∈ s.Queue, MsgD x ∧ checkM x = 0
 li : i64 s.Out.Limit
 iN : s.Out.Items.length ≤ 32
 is : ∀ x ∈ s.Out.Items, FlightD x
 pn : s.Out.Pool.Used.length ≤ 32
 ps : ∀ x ∈ s.Out.Pool.Used, i64 x
 la : i64 s.Out.Pool.Last
 dn : s.In.IDs.length ≤ 32
 ds : ∀ x ∈ s.In.IDs, i64 x
 w : WillD s.Will
theorem yA {α : Type} {one : Rd α} {w : α → List Int} {lim : Int} {l : List α} (n : Nat) (hl : l.length ≤ n) (hn : (n : Int) ≤ lim) (h2 : n ≤ 1000000) (h : ∀ x ∈ l, gD one (w x) x) : gD (mB lim one) (jQ w l) l :=
 aq0 (by omega) (by omega) h
theorem acE {s : aI} (h : acG s) : gD tI (iV s) s := by
 unfold tI iV
 refine dR (uU h.c (by decide) (by decide)) ?_
 refine dR (uU h.u (by decide) (by decide)) ?_
 refine dR (k8 h.ex) ?_
 refine dR (k8 h.un) ?_
 refine dR (k8 h.dr) ?_
 refine dR (yA 32 h.sn (by decide) (by decide) fun x hx => asd (h.ss x hx)) ?_
 refine dR (yA 256 h.qn (by decide) (by decide) fun x hx => afV (h.qs x hx).1 (h.qs x hx).2) ?_
 refine dR (k8 h.li) ?_
 refine dR (yA 32 h.iN (by decide) (by decide) fun x hx => aos (h.is x hx)) ?_
 refine dR (yA 32 h.pn (by decide) (by decide) fun x hx => k8 (h.ps x hx)) ?_
 refine dR (k8 h.la) ?_
 refine dR (yA 32 h.dn (by decide) (by decide) fun x hx => k8 (h.ds x hx)) ?_
 refine dR (afz s.Will.Set) ?_
 refine aaF (aqL h.w) fun q => ?_
 obtain ⟨a, b, on, cn, c, d, e, f, g, ⟨o1, o2, ⟨o3, o4⟩⟩, ⟨i⟩, w⟩ := s
 have h1 : on = false := h.on
 have h2 : cn = 0 := h.cn
 rw [h1, h2]; rfl
theorem anX : uP tI iV acG := fun l x q hb h => by
 unfold tI at h
 obtain ⟨c, l1, h1, g1⟩ := cL h
 obtain ⟨d1, e1⟩ := vV 16 l c l1 hb h1
 subst e1
 have hb := dC hb
 obtain ⟨u, l2, h2, g2⟩ := cL g1
 obtain ⟨d2, e2⟩ := vV 16 l1 u l2 hb h2
 subst e2
 have hb := dC hb
 obtain ⟨ex, l3, h3, g3⟩ := cL g2
 obtain ⟨d3, e3⟩ := k9 l2 ex l3 hb h3
 subst e3
 have hb := dC hb
 obtain ⟨un, l4, h4, g4⟩ := cL g3
 obtain ⟨d4, e4⟩ := k9 l3 un l4 hb h4
 subst e4
 have hb := dC hb
 obtain ⟨dr, l5, h5, g5⟩ := cL g4
 obtain ⟨d5, e5⟩ := k9 l4 dr l5 hb h5
 subst e5
 have hb := dC hb
 obtain ⟨ss, l6, h6, g6⟩ := cL g5
 obtain ⟨d6, e6⟩ := acY av0 l5 ss l6 hb h6
 subst e6
 have hb := dC hb
 obtain ⟨qs, l7, h7, g7⟩ := cL g6
 obtain ⟨d7, e7⟩ := acY ai9 l6 qs l7 hb h7
 subst e7
 have hb := dC hb
 obtain ⟨li, l8, h8, g8⟩ := cL g7
 obtain ⟨d8, e8⟩ := k9 l7 li l8 hb h8
 subst e8
 have hb := dC hb
 obtain ⟨is, l9, h9, g9⟩ := cL g8
 obtain ⟨d9, e9⟩ := acY ard l8 is l9 hb h9
 subst e9
 have hb := dC hb
 obtain ⟨us, l10, h10, g10⟩ := cL g9
 obtain ⟨d10, e10⟩ := acY k9 l9 us l10 hb h10
 subst e10
 have hb := dC hb
 obtain ⟨la, l11, h11, g11⟩ := cL g10
 obtain ⟨d11, e11⟩ := k9 l10 la l11 hb h11
 subst e11
 have hb := dC hb
 obtain ⟨ds, l12, h12, g12⟩ := cL g11
 obtain ⟨d12, e12⟩ := acY k9 l11 ds l12 hb h12
 subst e12
 have hb := dC hb
 obtain ⟨fl, l13, h13, g13⟩ := cL g12
 obtain ⟨d13, e13⟩ := aiS l12 fl l13 hb h13
 subst e13
 have hb := dC hb
 obtain ⟨w, l14, h14, g14⟩ := cL g13
 obtain ⟨d14, e14⟩ := atW _ l13 w l14 hb h14
 subst e14
 have hb := dC hb
 injection g14 with h h'
 subst h h'
 obtain ⟨k1, k2⟩ := d14
 refine ⟨⟨by dsimp only; omega, by dsimp only; omega, rfl, rfl, d3, d4, d5, by have := d6.1; dsimp only; omega, d6.2, by have := d7.1; dsimp only; omega, d7.2, d8, by have := d9.1; dsimp only; omega, d9.2, by have := d10.1; dsimp only; omega, d10.2, d11, by have := d12.1; dsimp only; omega, d12.2, k1⟩, ?_⟩
 unfold iV jQ
 dsimp only
 rw [k2]
 simp only [List.append_assoc]
end Md
end PX
