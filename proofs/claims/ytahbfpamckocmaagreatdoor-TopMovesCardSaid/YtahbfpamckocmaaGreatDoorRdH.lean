import Derived.Test.YtahbfpamckocmaaGreatDoorRdG
set_option linter.unusedVariables false
set_option linter.unusedSimpArgs false
namespace PX
open Go
namespace Md
theorem ak1 {s : Str} (h : tN s = true) : s.length ≤ 88 := by
 unfold tN at h
 rw [Bool.or_eq_true] at h
 rcases h with h | h
 ·unfold xQ at h
  split at h
  ·split at h
   ·cases h
   ·split at h
    ·rename_i h3
     rw [Bool.and_eq_true, Bool.and_eq_true] at h3
     have a := tH h3.1.1
     have b : sizedB ((s.drop 7).drop ((Lib.indexByte (s.drop 7) 47).toNat + 1)) = true := by
      have := h3.1.2
      unfold rU at this
      rw [Bool.and_eq_true] at this
      exact this.1
     have b := vG b
     simp only [List.length_take, List.length_drop] at a b
     omega
    ·cases h
  ·cases h
 ·rw [Bool.and_eq_true] at h
  have := h.1
  unfold rU at this
  rw [Bool.and_eq_true] at this
  have := vG this.1
  omega
theorem alX : ∀ {l : List aD} {p : Option Str}, uE p l = 0 → ∀ x ∈ l, x.Key.length ≤ 16 ∧ x.Value.length ≤ 160
 | [], _, _, _, h => by cases h
 | y :: r, p, h, x, hx => by
  rw [uE] at h
  have k1 : ade y.Key = true := by
   cases e : ade y.Key with
   | true => rfl
   | false => rw [e] at h; cases h
  have h := cz1 h (by decide)
  have k2 : y.Value.length ≤ 160 := by
   by_cases c : 160 < y.Value.length
   ·rw [aM (by simpa using c)] at h; cases h
   ·omega
  have h := cz2 (cz2 h (by decide)) (by decide)
  rcases List.mem_cons.1 hx with rfl | hx
  ·unfold ade at k1
   rw [Bool.and_eq_true] at k1
   have := k1.1
   unfold eL at this
   simp only [Bool.and_eq_true, decide_eq_true_eq] at this
   omega
  ·exact alX h x hx
theorem aiM {m : aA} (h : checkM m = 0) (g : m.good) : MsgD m := by
 have hn := mM h
 obtain ⟨_, _, g3, g4, g5, _, g7, _⟩ := g
 unfold checkM at h
 have k1 : sR m.Topic = true := by
  cases e : sR m.Topic with
  | true => rfl
  | false => rw [e] at h; cases h
 have h := cz1 h (by decide)
 have k2 : m.Payload.length ≤ 256 := by
  by_cases c : 256 < (m.Payload.length : Int)
  ·rw [aM (by simpa using c)] at h; cases h
  ·omega
 have h := cz2 h (by decide)
 have h := cz1 (cz1 (cz1 h (by decide)) (by decide)) (by decide)
 have k3 : m.From.length ≤ 16 ∧ uO m.Props = 0 := by
  cases e : m.From == [] with
  | true =>
   rw [e] at h
   have : m.From = [] := by simpa using e
   rw [this]
   exact ⟨by simp, cz1 h (by decide)⟩
  | false =>
   rw [e, dL] at h
   have kf : fE m.From = true := by
    cases e : fE m.From with
    | true => rfl
    | false => rw [e] at h; cases h
   have h := cz1 h (by decide)
   exact ⟨tH kf, cz1 h (by decide)⟩
 have k4 : sizedB m.Topic = true := by
  unfold sR at k1
  rw [Bool.and_eq_true, Bool.and_eq_true] at k1
  exact k1.1.1
 have k4 := vG k4
 have k5 : uE none m.Props = 0 := by
  have := k3.2
  unfold uO at this
  exact cz2 this (by decide)
 exact ⟨by omega, by omega, oG g3, oG g4, oG g5, k3.1, oG g7, by omega, alX k5⟩
theorem aom : ∀ {l : List aG} {p : Option Str}, pX p l = 0 → ∀ x ∈ l, x.Filter.length ≤ 88
 | [], _, _, _, h => by cases h
 | y :: r, p, h, x, hx => by
  rw [pX] at h
  by_cases e : aa0 y = 0
  ·rw [aM (by simpa using e)] at h
   have h2 := cz2 h (by decide)
   rcases List.mem_cons.1 hx with rfl | hx
   ·unfold aa0 at e
    cases hw : tN x.Filter with
    | true => exact ak1 hw
    | false => rw [hw] at e; cases e
   ·exact aom h2 x hx
  ·rw [aN (by simpa using e)] at h; exact absurd h e
theorem asK {w : aV} (h : willE w = 0) (g : w.good) : WillD w := by
 unfold willE at h
 cases hs : w.Set with
 | true =>
  rw [hs, cS] at h
  have hc := cz1 h (by decide)
  exact ⟨fun _ => ⟨oG g.1, aiM hc g.2, hc⟩, fun h2 => by rw [hs] at h2; cases h2⟩
 | false =>
  rw [hs, dL] at h
  refine ⟨(fun h2 => by rw [hs] at h2; cases h2), fun _ => ?_⟩
  have h1 : w.Delay = 0 := by
   cases e : w.Delay == 0 with
   | true => simpa using e
   | false => rw [e] at h; cases h
  have h := cz1 h (by decide)
  have h2 : w.Message = lP := by
   cases e : decide (w.Message = lP) with
   | true => simpa using e
   | false => rw [e] at h; cases h
  obtain ⟨a, b, c⟩ := w
  have hs : a = false := hs
  have h1 : b = 0 := h1
  have h2 : c = lP := h2
  rw [hs, h1, h2]
theorem ape {s : aC} (g : s.good) (h : jG s = 0) (h1 : s.Online = false) (h2 : s.Conn = 0) : yC s := by
 obtain ⟨p1, p2, p3, p4, p5, p6⟩ := yG h
 obtain ⟨a1, a2⟩ := aaa p3
 obtain ⟨s1, s2⟩ := ae8 p2
 obtain ⟨w1, w2, w3⟩ := acS p4
 have hp := (pL w1).1
 have hi := (abU p5).1
 obtain ⟨_, _, _, g4, g5, g6, g7, g8, ⟨g9, g10, g11, g12⟩, g13, g14⟩ := g
 have hc : fE s.Client = true ∧ (s.User == [] || fE s.User) = true := by
  unfold headE at p1
  cases e1 : fE s.Client with
  | false => rw [e1] at p1; cases p1
  | true =>
   rw [e1, cS] at p1
   cases e2 : (s.User == [] || fE s.User) with
   | false => rw [e2] at p1; cases p1
   | true => exact ⟨rfl, rfl⟩
 have hu : s.User.length ≤ 16 := by
  rcases Bool.or_eq_true _ _ ▸ hc.2 with e | e
  ·have : s.User = [] := by simpa using e
   rw [this]; simp
  ·exact tH e
 refine ⟨tH hc.1, hu, h1, h2, oG g4, oG g5, oG g6, s1, fun x hx => ⟨aom s2 x hx, oG (g7.2 x hx).2⟩, a1, fun x hx => ⟨aiM (a2 x hx) (g8.2 x hx), a2 x hx⟩, oG g9, w2, fun x hx => ?_, hp, fun x hx => oG (g11.2 x hx), oG g12, hi, fun x hx => oG (g13.2 x hx), asK p6 g14⟩
 obtain ⟨f1, f2, f3⟩ := g10.2 x hx
 have hf := uJ (zU w3 x hx)
 exact ⟨oG f1, oG f2, aiM hf f3, hf⟩
theorem aqv {m : aA} (h : MsgD m) : m.good := by
 have h1 := h.t; have h2 := h.p; have h3 := h.f; have h4 := h.n
 refine ⟨by unfold okS; omega, by unfold okS; omega, iX h.l, iX h.pr, iX h.ex, by unfold okS; omega, iX h.sq, by omega, fun x hx => ?_⟩
 have := h.ps x hx
 exact ⟨by unfold okS; omega, by unfold okS; omega⟩
theorem ani : lP.good := by
 refine ⟨Nat.zero_le _, Nat.zero_le _, rA (by decide) (by decide), rA (by decide) (by decide), rA (by decide) (by decide), Nat.zero_le _, rA (by decide) (by decide), by decide, fun x hx => by cases hx⟩
theorem auO {s : aC} (h : yC s) : s.good := by
 have h1 := h.c; have h2 := h.u; have h3 := h.sn; have h4 := h.qn; have h5 := h.iN; have h6 := h.pn; have h7 := h.dn
 refine ⟨by unfold okS; omega, by unfold okS; omega, by rw [h.cn]; exact rA (by decide) (by decide), iX h.ex, iX h.un, iX h.dr, ⟨by omega, fun x hx => ?_⟩, ⟨by omega, fun x hx => aqv (h.qs x hx).1⟩, ⟨iX h.li, ⟨by omega, fun x hx => ?_⟩, ⟨by omega, fun x hx => iX (h.ps x hx)⟩, iX h.la⟩, ⟨by omega, fun x hx => iX (h.ds x hx)⟩, ?_⟩
 ·have := h.ss x hx
  exact ⟨by have := this.1; unfold okS; omega, iX this.2⟩
 ·obtain ⟨f1, f2, f3, _⟩ := h.is x hx
  exact ⟨iX f1, iX f2, aqv f3⟩
 ·cases hs : s.Will.Set with
  | true =>
   obtain ⟨w1, w2, _⟩ := h.w.1 hs
   exact ⟨iX w1, aqv w2⟩
  | false =>
   rw [h.w.2 hs]
   exact ⟨rA (by decide) (by decide), ani⟩
def nY (x0 : List Int) : aC × Int :=
 match rD x0 with
 | .ok y q => if q = [] then (if jG y = 0 then (y, 0) else (oK, jG y)) else (oK, 2)
 | .er e _ => (oK, e)
theorem aoM {x0 : List Int} (hb : Buf x0) {C : aC → Option Int} {o : Option (aC × Int)} (hC : ∀ y, yC y → C y = some (jG y)) (h : match rD x0 with | .ok y q => GI C y q o | .er e _ => BI e o) : o = some (nY x0) := by
 unfold nY
 cases c : rD x0 with
 | ok y q =>
  rw [c] at h
  have h : o = _ := h
  rw [h]
  by_cases hq : q = []
  ·rw [if_pos hq]
   dsimp only
   rw [if_pos hq, hC y (ajl _ _ _ hb.1 c).1, aU]
   by_cases hz : jG y = 0
   ·rw [if_pos hz, aN (by simpa using hz)]
   ·rw [if_neg hz, aM (by simpa using hz)]
  ·rw [if_neg hq]
   dsimp only
   rw [if_neg hq]
 | er e he =>
  rw [c] at h
  exact h
theorem aob {x0 : List Int} (hb : Buf x0) : oA x0 = some (nY x0) := aoM hb (fun y hy => vA y (auO hy)) (ame hb)
theorem alS {s : aC} (d : yC s) (h : jG s = 0) : nY (qX s) = (s, 0) := by
 have := alO d []
 rw [List.append_nil] at this
 unfold nY
 rw [this]
 simp only [if_true, if_pos h]
theorem asU {l : List Int} (g : D.okL [.sl [.int .u8]] ([D.sl [.int .u8] (List.map (encI .u8) l)])) : byt l := fun x hx => by
 have h : okL (okI .u8) l := jV (fun x (h : D.okL [.int .u8] ((encI .u8) x)) => h.1.2) g.1
 have := h.2 x hx
 simp only [okI, Go.Lit.wf, Go.IntKind.min, Go.IntKind.max, Go.IntKind.signed, Go.IntKind.bits, Bool.and_eq_true, decide_eq_true_eq] at this
 revert this
 simp
 omega
theorem atz (n : Nat) : ∀ (k : Nat) (x : Int), 0 ≤ x → x < 128 ^ k → byt (kG k x) := fun k => by
 induction k with
 | zero => intro x h0 h1 y hy; cases hy
 | succ k ih =>
  intro x h0 h1 y hy
  rw [kG] at hy
  by_cases c : x ≥ 128
  ·rw [if_pos c] at hy
   rcases List.mem_cons.1 hy with rfl | hy
   ·omega
   ·refine ih (x / 128) (by omega) ?_ y hy
    rw [Int.pow_succ] at h1
    exact Int.ediv_lt_of_lt_mul (by omega) h1
  ·rw [if_neg c] at hy
   rcases List.mem_cons.1 hy with rfl | hy
   ·omega
   ·cases hy
theorem eG {a b : List Int} (h1 : byt a) (h2 : byt b) : byt (a ++ b) := fun x hx => (List.mem_append.1 hx).elim (h1 x) (h2 x)
theorem jF {x : Int} (h : i64 x) : byt (dO x) := by
 obtain ⟨z0, z1⟩ := aaz h.1 h.2
 exact atz 0 10 _ z0 (by omega)
theorem vN {s : List UInt8} (h : s.length ≤ 1000000) : byt (lN s) := eG (jF ⟨by omega, by omega⟩) (an9 s)
theorem agB {α : Type} (w : α → List Int) : ∀ {l : List α}, (∀ x ∈ l, byt (w x)) → byt (l.flatMap w)
 | [], _ => fun x hx => by cases hx
 | x :: r, h => by
  rw [List.flatMap_cons]
  exact eG (h x (by simp)) (agB w fun y hy => h y (by simp [hy]))
theorem aiF (b : Bool) : byt (dO (w7 b)) := jF (by cases b <;> exact ⟨by decide, by decide⟩)
theorem aiL {m : aA} (h : MsgD m) : byt (pR m) := by
 have h1 := h.t; have h2 := h.p; have h3 := h.f; have h4 := h.n
 refine eG (vN (by omega)) (eG (vN (by omega)) (eG (jF h.l) (eG (aiF m.Retain) (eG (jF h.pr) (eG (jF h.ex) (eG (vN (by omega)) (eG (jF h.sq) (eG (jF ⟨by omega, by omega⟩) (agB _ fun x hx => ?_)))))))))
 have := h.ps x hx
 exact eG (vN (by omega)) (vN (by omega))
theorem aaT {α : Type} (w : α → List Int) {l : List α} (n : Nat) (hl : l.length ≤ n) (hn : n ≤ 1000000) (h : ∀ x ∈ l, byt (w x)) : byt (mE w l) := eG (jF ⟨by omega, by omega⟩) (agB w h)
theorem aps {s : aC} (h : yC s) : byt (qX s) := by
 have h1 := h.c; have h2 := h.u
 refine eG (vN (by omega)) (eG (vN (by omega)) (eG (jF h.ex) (eG (jF h.un) (eG (jF h.dr) (eG (aaT v8 32 h.sn (by decide) fun x hx => ?_) (eG (aaT pR 256 h.qn (by decide) fun x hx => aiL (h.qs x hx).1) (eG (jF h.li) (eG (aaT mR 32 h.iN (by decide) fun x hx => ?_) (eG (aaT dO 32 h.pn (by decide) fun x hx => jF (h.ps x hx)) (eG (jF h.la) (eG (aaT dO 32 h.dn (by decide) fun x hx => jF (h.ds x hx)) (eG (aiF _) ?_))))))))))))
 ·have := h.ss x hx
  exact eG (vN (by have := this.1; omega)) (eG (jF this.2) (aiF _))
 ·obtain ⟨f1, f2, f3, _⟩ := h.is x hx
  exact eG (jF f1) (eG (jF f2) (aiL f3))
 ·unfold w4
  cases hs : s.Will.Set with
  | true =>
   obtain ⟨w1, w2, _⟩ := h.w.1 hs
   exact eG (jF w1) (aiL w2)
  | false => intro x hx; cases hx
theorem xK {α : Type} (w : α → List Int) (n : Nat) {l : List α} (k : Nat) (hl : l.length ≤ k) (h : ∀ x ∈ l, (w x).length ≤ n) : (l.flatMap w).length ≤ k * n := Nat.le_trans (agy w n h) (Nat.mul_le_mul_right _ hl)
theorem aih {m : aA} (h : MsgD m) : (pR m).length ≤ 3000 := by
 have h1 := h.t; have h2 := h.p; have h3 := h.f; have h4 := h.n
 have a := fQ m.Topic
 have b := fQ m.Payload
 have c := fQ m.From
 have d := xK (fun x : aD => lN x.Key ++ lN x.Value) 200 8 h4 fun x hx => by
  have := h.ps x hx
  have a := fQ x.Key
  have b := fQ x.Value
  simp only [List.length_append]; omega
 have e1 := bQ m.Level
 have e2 := bQ (if m.Retain then 1 else 0)
 have e3 := bQ m.Priority
 have e4 := bQ m.Expires
 have e5 := bQ m.Seq
 have e6 := bQ (m.Props.length : Int)
 simp only [pR, p7, List.length_append]
 omega
theorem apx {s : aC} (h : yC s) : (qX s).length ≤ 1500000 := by
 have h1 := h.c; have h2 := h.u
 have a := fQ s.Client
 have b := fQ s.User
 have l1 := xK v8 150 32 h.sn fun x hx => by
  have := (h.ss x hx).1
  have a := fQ x.Filter
  have b := bQ x.Level
  have c := bQ (w7 x.NoLocal)
  simp only [v8, List.length_append]; omega
 have l2 := xK pR 3000 256 h.qn fun x hx => aih (h.qs x hx).1
 have l3 := xK mR 3100 32 h.iN fun x hx => by
  have a := aih (h.is x hx).2.2.1
  have b := bQ x.ID
  have c := bQ x.State
  simp only [mR, List.length_append]; omega
 have l4 := xK dO 10 32 h.pn fun x hx => bQ x
 have l5 := xK dO 10 32 h.dn fun x hx => bQ x
 have e1 := bQ s.Expiry
 have e2 := bQ s.Until
 have e3 := bQ s.Dropped
 have e4 := bQ s.Out.Limit
 have e5 := bQ s.Out.Pool.Last
 have e6 := bQ (w7 s.Will.Set)
 have e7 := bQ s.Will.Delay
 have f1 := bQ (s.Subs.length : Int)
 have f2 := bQ (s.Queue.length : Int)
 have f3 := bQ (s.Out.Items.length : Int)
 have f4 := bQ (s.Out.Pool.Used.length : Int)
 have f5 := bQ (s.In.IDs.length : Int)
 have lw : (w4 s.Will).length ≤ 3100 := by
  unfold w4
  cases hs : s.Will.Set with
  | true =>
   have := aih (h.w.1 hs).2.1
   simp only [if_true, List.length_append]; omega
  | false => simp
 simp only [qX, mE, List.length_append]
 omega
theorem aqa {s : aC} (h : yC s) : Buf (qX s) := ⟨aps h, by have := apx h; omega⟩
end Md
end PX
