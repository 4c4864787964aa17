import Derived.Test.YtmcpanmcgpjfiaaGreatDoorRdG
set_option linter.unusedVariables false
set_option linter.unusedSimpArgs false
namespace PX
open Go
namespace Md
theorem apt {s : Str} (h : vP s = true) : s.length ≤ 88 := by
 unfold vP at h
 rw [Bool.or_eq_true] at h
 rcases h with h | h
 ·unfold vL at h
  split at h
  ·split at h
   ·cases h
   ·split at h
    ·rename_i h3
     rw [Bool.and_eq_true, Bool.and_eq_true] at h3
     have a := yE h3.1.1
     have b : sizedB ((s.drop 7).drop ((Lib.indexByte (s.drop 7) 47).toNat + 1)) = true := by
      have := h3.1.2
      unfold qN at this
      rw [Bool.and_eq_true] at this
      exact this.1
     have b := aaT b
     simp only [List.length_take, List.length_drop] at a b
     omega
    ·cases h
  ·cases h
 ·rw [Bool.and_eq_true] at h
  have := h.1
  unfold qN at this
  rw [Bool.and_eq_true] at this
  have := aaT this.1
  omega
theorem ark : ∀ {l : List aG} {p : Option Str}, wR p l = 0 → ∀ x ∈ l, x.Key.length ≤ 16 ∧ x.Value.length ≤ 160
 | [], _, _, _, h => by cases h
 | y :: r, p, h, x, hx => by
  rw [wR] at h
  have k1 : aer y.Key = true := by
   cases e : aer y.Key with
   | true => rfl
   | false => rw [e] at h; cases h
  have h := cz1 h (by decide)
  have k2 : y.Value.length ≤ 160 := by
   by_cases c : 160 < y.Value.length
   ·rw [aL (by simpa using c)] at h; cases h
   ·omega
  have h := cz2 (cz2 h (by decide)) (by decide)
  rcases List.mem_cons.1 hx with rfl | hx
  ·unfold aer at k1
   rw [Bool.and_eq_true] at k1
   have := k1.1
   unfold fE at this
   simp only [Bool.and_eq_true, decide_eq_true_eq] at this
   omega
  ·exact ark h x hx
theorem am4 {m : aC} (h : checkM m = 0) (g : m.good) : MsgD m := by
 have hn := yZ h
 obtain ⟨_, _, g3, g4, g5, _, g7, _⟩ := g
 unfold checkM at h
 have k1 : yT m.Topic = true := by
  cases e : yT m.Topic with
  | true => rfl
  | false => rw [e] at h; cases h
 have h := cz1 h (by decide)
 have k2 : m.Payload.length ≤ 256 := by
  by_cases c : 256 < (m.Payload.length : Int)
  ·rw [aL (by simpa using c)] at h; cases h
  ·omega
 have h := cz2 h (by decide)
 have h := cz1 (cz1 (cz1 h (by decide)) (by decide)) (by decide)
 have k3 : m.From.length ≤ 16 ∧ wV m.Props = 0 := by
  cases e : m.From == [] with
  | true =>
   rw [e] at h
   have : m.From = [] := by simpa using e
   rw [this]
   exact ⟨by simp, cz1 h (by decide)⟩
  | false =>
   rw [e, eW] at h
   have kf : gS m.From = true := by
    cases e : gS m.From with
    | true => rfl
    | false => rw [e] at h; cases h
   have h := cz1 h (by decide)
   exact ⟨yE kf, cz1 h (by decide)⟩
 have k4 : sizedB m.Topic = true := by
  unfold yT at k1
  rw [Bool.and_eq_true, Bool.and_eq_true] at k1
  exact k1.1.1
 have k4 := aaT k4
 have k5 : wR none m.Props = 0 := by
  have := k3.2
  unfold wV at this
  exact cz2 this (by decide)
 exact ⟨by omega, by omega, sY g3, sY g4, sY g5, k3.1, sY g7, by omega, ark k5⟩
theorem aut : ∀ {l : List aK} {p : Option Str}, tH p l = 0 → ∀ x ∈ l, x.Filter.length ≤ 88
 | [], _, _, _, h => by cases h
 | y :: r, p, h, x, hx => by
  rw [tH] at h
  by_cases e : aco y = 0
  ·rw [aL (by simpa using e)] at h
   have h2 := cz2 h (by decide)
   rcases List.mem_cons.1 hx with rfl | hx
   ·unfold aco at e
    cases hw : vP x.Filter with
    | true => exact apt hw
    | false => rw [hw] at e; cases e
   ·exact aut h2 x hx
  ·rw [aS (by simpa using e)] at h; exact absurd h e
theorem azj {w : bM} (h : zK w = 0) (g : w.good) : WillD w := by
 unfold zK at h
 cases hs : w.Set with
 | true =>
  rw [hs, eS] at h
  have hc := cz1 h (by decide)
  exact ⟨fun _ => ⟨sY g.1, am4 hc g.2, hc⟩, fun h2 => by rw [hs] at h2; cases h2⟩
 | false =>
  rw [hs, eW] at h
  refine ⟨(fun h2 => by rw [hs] at h2; cases h2), fun _ => ?_⟩
  have h1 : w.Delay = 0 := by
   cases e : w.Delay == 0 with
   | true => simpa using e
   | false => rw [e] at h; cases h
  have h := cz1 h (by decide)
  have h2 : w.Message = pS := by
   cases e : decide (w.Message = pS) with
   | true => simpa using e
   | false => rw [e] at h; cases h
  obtain ⟨a, b, c⟩ := w
  have hs : a = false := hs
  have h1 : b = 0 := h1
  have h2 : c = pS := h2
  rw [hs, h1, h2]
theorem awf {s : aI} (g : s.good) (h : jT s = 0) (h1 : s.Online = false) (h2 : s.Conn = 0) : acG s := by
 obtain ⟨p1, p2, p3, p4, p5, p6⟩ := afr h
 obtain ⟨a1, a2⟩ := ahi p3
 obtain ⟨s1, s2⟩ := ajC p2
 obtain ⟨w1, w2, w3⟩ := ak7 p4
 have hp := (adn w1).1
 have hi := (afG p5).1
 obtain ⟨_, _, _, g4, g5, g6, g7, g8, ⟨g9, g10, g11, g12⟩, g13, g14⟩ := g
 have hc : gS s.Client = true ∧ (s.User == [] || gS s.User) = true := by
  unfold adg at p1
  cases e1 : gS s.Client with
  | false => rw [e1] at p1; cases p1
  | true =>
   rw [e1, eS] at p1
   cases e2 : (s.User == [] || gS s.User) with
   | false => rw [e2] at p1; cases p1
   | true => exact ⟨rfl, rfl⟩
 have hu : s.User.length ≤ 16 := by
  rcases Bool.or_eq_true _ _ ▸ hc.2 with e | e
  ·have : s.User = [] := by simpa using e
   rw [this]; simp
  ·exact yE e
 refine ⟨yE hc.1, hu, h1, h2, sY g4, sY g5, sY g6, s1, fun x hx => ⟨aut s2 x hx, sY (g7.2 x hx).2⟩, a1, fun x hx => ⟨am4 (a2 x hx) (g8.2 x hx), a2 x hx⟩, sY g9, w2, fun x hx => ?_, hp, fun x hx => sY (g11.2 x hx), sY g12, hi, fun x hx => sY (g13.2 x hx), azj p6 g14⟩
 obtain ⟨f1, f2, f3⟩ := g10.2 x hx
 have hf := afR (adi w3 x hx)
 exact ⟨sY f1, sY f2, am4 hf f3, hf⟩
theorem awQ {m : aC} (h : MsgD m) : m.good := by
 have h1 := h.t; have h2 := h.p; have h3 := h.f; have h4 := h.n
 refine ⟨by unfold okS; omega, by unfold okS; omega, lI h.l, lI h.pr, lI h.ex, by unfold okS; omega, lI h.sq, by omega, fun x hx => ?_⟩
 have := h.ps x hx
 exact ⟨by unfold okS; omega, by unfold okS; omega⟩
theorem asW : pS.good := by
 refine ⟨Nat.zero_le _, Nat.zero_le _, qY (by decide) (by decide), qY (by decide) (by decide), qY (by decide) (by decide), Nat.zero_le _, qY (by decide) (by decide), by decide, fun x hx => by cases hx⟩
theorem ase {s : aI} (h : acG s) : s.good := by
 have h1 := h.c; have h2 := h.u; have h3 := h.sn; have h4 := h.qn; have h5 := h.iN; have h6 := h.pn; have h7 := h.dn
 refine ⟨by unfold okS; omega, by unfold okS; omega, by rw [h.cn]; exact qY (by decide) (by decide), lI h.ex, lI h.un, lI h.dr, ⟨by omega, fun x hx => ?_⟩, ⟨by omega, fun x hx => awQ (h.qs x hx).1⟩, ⟨lI h.li, ⟨by omega, fun x hx => ?_⟩, ⟨by omega, fun x hx => lI (h.ps x hx)⟩, lI h.la⟩, ⟨by omega, fun x hx => lI (h.ds x hx)⟩, ?_⟩
 ·have := h.ss x hx
  exact ⟨by have := this.1; unfold okS; omega, lI this.2⟩
 ·obtain ⟨f1, f2, f3, _⟩ := h.is x hx
  exact ⟨lI f1, lI f2, awQ f3⟩
 ·cases hs : s.Will.Set with
  | true =>
   obtain ⟨w1, w2, _⟩ := h.w.1 hs
   exact ⟨lI w1, awQ w2⟩
  | false =>
   rw [h.w.2 hs]
   exact ⟨qY (by decide) (by decide), asW⟩
def jU (x0 : List Int) : aI × Int :=
 match tI x0 with
 | .ok y q => if q = [] then (if jT y = 0 then (y, 0) else (mI, jT y)) else (mI, 2)
 | .er e _ => (mI, e)
theorem anV {x0 : List Int} (hb : Buf x0) {C : aI → Option Int} {o : Option (aI × Int)} (hC : ∀ y, acG y → C y = some (jT y)) (h : match tI x0 with | .ok y q => GI C y q o | .er e _ => BI e o) : o = some (jU x0) := by
 unfold jU
 cases c : tI x0 with
 | ok y q =>
  rw [c] at h
  have h : o = _ := h
  rw [h]
  by_cases hq : q = []
  ·rw [if_pos hq]
   dsimp only
   rw [if_pos hq, hC y (anX _ _ _ hb.1 c).1, aY]
   by_cases hz : jT y = 0
   ·rw [if_pos hz, aS (by simpa using hz)]
   ·rw [if_neg hz, aL (by simpa using hz)]
  ·rw [if_neg hq]
   dsimp only
   rw [if_neg hq]
 | er e he =>
  rw [c] at h
  exact h
theorem acN {x0 : List Int} (hb : Buf x0) : jF x0 = some (jU x0) := anV hb (fun y hy => aep y (ase hy)) (arZ hb)
theorem ajz {x0 : List Int} (hb : Buf x0) (h : (jU x0).2 = 0) : acG (jU x0).1 ∧ jT (jU x0).1 = 0 ∧ x0 = iV (jU x0).1 := by
 unfold jU at *
 cases c : tI x0 with
 | ok y q =>
  rw [c] at h
  dsimp only at h ⊢
  obtain ⟨d, e⟩ := anX _ _ _ hb.1 c
  by_cases hq : q = []
  ·rw [if_pos hq] at h ⊢
   by_cases hz : jT y = 0
   ·rw [if_pos hz] at h ⊢
    refine ⟨d, hz, ?_⟩
    rw [hq, List.append_nil] at e
    exact e
   ·rw [if_neg hz] at h
    exact absurd h hz
  ·rw [if_neg hq] at h
   cases h
 | er e he =>
  rw [c] at h
  exact absurd h he
theorem aqS {s : aI} (d : acG s) (h : jT s = 0) : jU (iV s) = (s, 0) := by
 have := acE d []
 rw [List.append_nil] at this
 unfold jU
 rw [this]
 simp only [if_true, if_pos h]
theorem aAD (n : Nat) : ∀ (k : Nat) (x : Int), 0 ≤ x → x < 128 ^ k → byt (mY k x) := fun k => by
 induction k with
 | zero => intro x h0 h1 y hy; cases hy
 | succ k ih =>
  intro x h0 h1 y hy
  rw [mY] at hy
  by_cases c : x ≥ 128
  ·rw [if_pos c] at hy
   rcases List.mem_cons.1 hy with rfl | hy
   ·omega
   ·refine ih (x / 128) (by omega) ?_ y hy
    rw [Int.pow_succ] at h1
    exact Int.ediv_lt_of_lt_mul (by omega) h1
  ·rw [if_neg c] at hy
   rcases List.mem_cons.1 hy with rfl | hy
   ·omega
   ·cases hy
theorem fB {a b : List Int} (h1 : byt a) (h2 : byt b) : byt (a ++ b) := fun x hx => (List.mem_append.1 hx).elim (h1 x) (h2 x)
theorem lZ {x : Int} (h : i64 x) : byt (cO x) := by
 obtain ⟨z0, z1⟩ := ac3 h.1 h.2
 exact aAD 0 10 _ z0 (by omega)
theorem aaW {s : List UInt8} (h : s.length ≤ 1000000) : byt (gQ s) := fB (lZ ⟨by omega, by omega⟩) (auf s)
theorem akP {α : Type} (w : α → List Int) : ∀ {l : List α}, (∀ x ∈ l, byt (w x)) → byt (l.flatMap w)
 | [], _ => fun x hx => by cases hx
 | x :: r, h => by
  rw [List.flatMap_cons]
  exact fB (h x (by simp)) (akP w fun y hy => h y (by simp [hy]))
theorem amM (b : Bool) : byt (cO (yM b)) := lZ (by cases b <;> exact ⟨by decide, by decide⟩)
theorem amO {m : aC} (h : MsgD m) : byt (pL m) := by
 have h1 := h.t; have h2 := h.p; have h3 := h.f; have h4 := h.n
 refine fB (aaW (by omega)) (fB (aaW (by omega)) (fB (lZ h.l) (fB (amM m.Retain) (fB (lZ h.pr) (fB (lZ h.ex) (fB (aaW (by omega)) (fB (lZ h.sq) (fB (lZ ⟨by omega, by omega⟩) (akP _ fun x hx => ?_)))))))))
 have := h.ps x hx
 exact fB (aaW (by omega)) (aaW (by omega))
theorem aeg {α : Type} (w : α → List Int) {l : List α} (n : Nat) (hl : l.length ≤ n) (hn : n ≤ 1000000) (h : ∀ x ∈ l, byt (w x)) : byt (jQ w l) := fB (lZ ⟨by omega, by omega⟩) (akP w h)
theorem awt {s : aI} (h : acG s) : byt (iV s) := by
 have h1 := h.c; have h2 := h.u
 refine fB (aaW (by omega)) (fB (aaW (by omega)) (fB (lZ h.ex) (fB (lZ h.un) (fB (lZ h.dr) (fB (aeg zB 32 h.sn (by decide) fun x hx => ?_) (fB (aeg pL 256 h.qn (by decide) fun x hx => amO (h.qs x hx).1) (fB (lZ h.li) (fB (aeg j4 32 h.iN (by decide) fun x hx => ?_) (fB (aeg cO 32 h.pn (by decide) fun x hx => lZ (h.ps x hx)) (fB (lZ h.la) (fB (aeg cO 32 h.dn (by decide) fun x hx => lZ (h.ds x hx)) (fB (amM _) ?_))))))))))))
 ·have := h.ss x hx
  exact fB (aaW (by have := this.1; omega)) (fB (lZ this.2) (amM _))
 ·obtain ⟨f1, f2, f3, _⟩ := h.is x hx
  exact fB (lZ f1) (fB (lZ f2) (amO f3))
 ·unfold zN
  cases hs : s.Will.Set with
  | true =>
   obtain ⟨w1, w2, _⟩ := h.w.1 hs
   exact fB (lZ w1) (amO w2)
  | false => intro x hx; cases hx
theorem ab7 {α : Type} (w : α → List Int) (n : Nat) {l : List α} (k : Nat) (hl : l.length ≤ k) (h : ∀ x ∈ l, (w x).length ≤ n) : (l.flatMap w).length ≤ k * n := Nat.le_trans (ale w n h) (Nat.mul_le_mul_right _ hl)
theorem ano {m : aC} (h : MsgD m) : (pL m).length ≤ 3000 := by
 have h1 := h.t; have h2 := h.p; have h3 := h.f; have h4 := h.n
 have a := eN m.Topic
 have b := eN m.Payload
 have c := eN m.From
 have d := ab7 (fun x : aG => gQ x.Key ++ gQ x.Value) 200 8 h4 fun x hx => by
  have := h.ps x hx
  have a := eN x.Key
  have b := eN x.Value
  simp only [List.length_append]; omega
 have e1 := bR m.Level
 have e2 := bR (if m.Retain then 1 else 0)
 have e3 := bR m.Priority
 have e4 := bR m.Expires
 have e5 := bR m.Seq
 have e6 := bR (m.Props.length : Int)
 simp only [pL, oL, List.length_append]
 omega
theorem ahl {s : aI} (h : acG s) : (iV s).length ≤ 1500000 := by
 have h1 := h.c; have h2 := h.u
 have a := eN s.Client
 have b := eN s.User
 have l1 := ab7 zB 150 32 h.sn fun x hx => by
  have := (h.ss x hx).1
  have a := eN x.Filter
  have b := bR x.Level
  have c := bR (yM x.NoLocal)
  simp only [zB, List.length_append]; omega
 have l2 := ab7 pL 3000 256 h.qn fun x hx => ano (h.qs x hx).1
 have l3 := ab7 j4 3100 32 h.iN fun x hx => by
  have a := ano (h.is x hx).2.2.1
  have b := bR x.ID
  have c := bR x.State
  simp only [j4, List.length_append]; omega
 have l4 := ab7 cO 10 32 h.pn fun x hx => bR x
 have l5 := ab7 cO 10 32 h.dn fun x hx => bR x
 have e1 := bR s.Expiry
 have e2 := bR s.Until
 have e3 := bR s.Dropped
 have e4 := bR s.Out.Limit
 have e5 := bR s.Out.Pool.Last
 have e6 := bR (yM s.Will.Set)
 have e7 := bR s.Will.Delay
 have f1 := bR (s.Subs.length : Int)
 have f2 := bR (s.Queue.length : Int)
 have f3 := bR (s.Out.Items.length : Int)
 have f4 := bR (s.Out.Pool.Used.length : Int)
 have f5 := bR (s.In.IDs.length : Int)
 have lw : (zN s.Will).length ≤ 3100 := by
  unfold zN
  cases hs : s.Will.Set with
  | true =>
   have := ano (h.w.1 hs).2.1
   simp only [if_true, List.length_append]; omega
  | false => simp
 simp only [iV, jQ, List.length_append]
 omega
theorem avw {s : aI} (h : acG s) : Buf (iV s) := ⟨awt h, by have := ahl h; omega⟩
end Md
end PX
