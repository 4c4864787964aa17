import Derived.Test.YtahbfpamckocmaaGreatDoorSessT
import Derived.Test.YtahbfpamckocmaaGreatDoorSessR
import Derived.Test.YtahbfpamckocmaaGreatDoorRdH
import Derived.Test.YtahbfpamckocmaaGreatDoorLawSessionOffers
set_option linter.unusedVariables false
set_option linter.unusedSimpArgs false
namespace PX
open Go
namespace Md
theorem xL {ρ : Type} {c : Bool} {a : Option ρ} {r : ρ} (h : cond c a none = some r) : a = some r := by cases c; cases h; exact h
theorem pS {α ρ : Type} {x : Option α} {f : α → Option ρ} {r : ρ} (h : Option.bind x f = some r) : ∃ y, x = some y ∧ f y = some r := Option.bind_eq_some_iff.1 h
theorem abX (now : Int) (z : aC) : ∀ (fu : Nat) (b : aC) (w : List aF) (r : aC × List aF), fC fu now b z w = some r → r.1.Client = b.Client ∧ r.1.Online = b.Online := by
 intro fu
 induction fu with
 | zero => intro b w r h; cases h
 | succ fu ih =>
  intro b w r h
  rw [fC] at h
  cases c1 : decide ((List.length b.Queue : Int) > 0) with
  | false =>
   rw [c1, dL] at h
   injection h with h
   rw [← h]; exact ⟨rfl, rfl⟩
  | true =>
   rw [c1, cS] at h
   obtain ⟨e, _, h⟩ := pS (xL h)
   cases e with
   | true =>
    rw [cS] at h
    obtain ⟨d, hd, h⟩ := pS h
    rw [drop_eq] at hd
    injection hd with hd
    have := ih _ _ _ (xL h)
    rw [← hd] at this
    exact this
   | false =>
    rw [dL] at h
    cases c2 : (List.getD b.Queue (Int.toNat 0) default).Level == 0 with
    | true =>
     rw [c2, cS] at h
     obtain ⟨d, _, h⟩ := pS h
     have := ih _ _ _ (xL (xL h))
     exact this
    | false =>
     rw [c2, dL] at h
     obtain ⟨d, _, h⟩ := pS h
     cases c3 : d.2.2 != 0 with
     | true =>
      rw [c3, cS] at h
      injection h with h
      rw [← h]; exact ⟨rfl, rfl⟩
     | false =>
      rw [c3, dL] at h
      have := ih _ _ _ (xL (xL h))
      exact this
theorem alT {s : aC} (h : SOK s) {now : Int} {r : aC × List aF} (e : mP s now = some r) : r.1.Client = s.Client := by
 unfold mP at e
 rw [qM s h.abk] at e
 simp only [aU] at e
 cases ho : s.Online with
 | false =>
  rw [ho, Bool.not_false, cS] at e
  injection e with e
  rw [← e]
 | true =>
  rw [ho, Bool.not_true, dL] at e
  obtain ⟨d, hd, e⟩ := pS e
  injection e with e
  rw [← e]
  exact (abX _ _ _ _ _ _ hd).1
theorem ajs {s : aC} (h : SOK s) {p : aF} {c now : Int} {r : aC × List aF} (e : jE s p c now = some r) : r.1.Client = s.Client ∧ r.1.Online = true := by
 unfold jE at e
 rw [qM s h.abk] at e
 simp only [aU] at e
 obtain ⟨d1, _, e⟩ := pS e
 obtain ⟨d2, _, e⟩ := pS e
 obtain ⟨d3, hd, e⟩ := pS e
 injection e with e
 rw [← e]
 exact abX _ _ _ _ _ _ hd
theorem ajC {s : aC} (h : SOK s) {p : aF} {now : Int} {r : aC × List aF × Int} (e : j7 s p now = some r) (h0 : r.2.2 = 0) : r.1.Client = s.Client := by
 unfold j7 at e
 rw [qM s h.abk] at e
 obtain ⟨d, _, e⟩ := pS e
 cases c : d.2.2 != 0 with
 | true =>
  rw [c, cS] at e
  injection e with e
  rw [← e] at h0
  rw [bne_iff_ne] at c
  exact absurd h0 c
 | false =>
  rw [c, dL, aU] at e
  cases ho : s.Online with
  | false =>
   rw [ho, Bool.not_false, cS] at e
   injection e with e
   rw [← e]
  | true =>
   rw [ho, Bool.not_true, dL] at e
   obtain ⟨d2, hd, e⟩ := pS e
   injection e with e
   rw [← e]
   exact (abX _ _ _ _ _ _ hd).1
theorem aeB (l : List aF) (hl : l.length ≤ 100000) : iP l l = some true := by
 unfold iP
 rw [aN (by simp)]
 refine aeD (l := l) (F := fun fu i => fJ fu l l i) (g := fun _ => some true) (fun fu => by rw [fJ, aN (by simp)]) (fun fu i hi ih => ?_) (by omega)
 rw [fJ, aM (lL hi)]
 simp only [aM (inr hi), beq_self_eq_true, bne_self_eq_false, Bool.not_true, dL]
 rw [cG (by omega)]
 exact ih
structure TOK (s : aC) : Prop where
 ok : SOK s
 c : s.Client = [99]
 n : s.Dropped + s.Queue.length ≤ 1000
theorem aoI (x3 : List Int) (i : Nat) (hi : i < 1000) {s : aC} (h : TOK s) (fu : Nat) (p : aF) : ∃ s', TOK s' ∧ eV (c8 fu) x3 (i : Int) s s p = c8 fu x3 ((i + 1 : Nat) : Int) s' s' := by
 obtain ⟨r, e, h2, h3⟩ := ao0 h.ok p 3 (by have := h.n; omega)
 unfold eV
 rw [e]
 simp only [aU, bne_self_eq_false, dL]
 rw [aeB _ (by omega)]
 simp only [aU, Bool.not_true, dL]
 rw [cG (by omega)]
 by_cases c : r.2.2 = 0
 ·rw [aM (by simpa using c)]
  exact ⟨r.1, ⟨(h3 c).1, by rw [ajC h.ok e c]; exact h.c, by have := (h3 c).2; have := h.n; omega⟩, rfl⟩
 ·rw [aN (by simpa using c)]
  exact ⟨s, h, rfl⟩
theorem aoc (x3 : List Int) (hl : x3.length ≤ 20) : ∀ (k i fu : Nat) (s : aC), i + k = x3.length → k < fu → TOK s → c8 fu x3 (i : Int) s s = some true := by
 intro k
 induction k with
 | zero =>
  intro i fu s hi hf h
  obtain ⟨fu, rfl⟩ : ∃ n, fu = n + 1 := ⟨fu - 1, by omega⟩
  rw [c8, aN (by simp; omega), h.c]
  simp
 | succ k ih =>
  intro i fu s hi hf h
  obtain ⟨fu, rfl⟩ : ∃ n, fu = n + 1 := ⟨fu - 1, by omega⟩
  have hlt : i < x3.length := by omega
  rw [c8, aM (lL hlt), aM (inr hlt), aM (inr hlt)]
  have go : ∀ p, eV (c8 fu) x3 (i : Int) s s p = some true := fun p => by
   obtain ⟨s', h1, h2⟩ := aoI x3 i (by omega) h fu p
   rw [h2]
   exact ih (i + 1) fu s' (by omega) (by omega) h1
  cases (Int.tmod (List.getD x3 (Int.toNat (i : Int)) default) 3) == 1 with
  | true => rw [cS]; exact go _
  | false =>
   rw [dL]
   cases (Int.tmod (List.getD x3 (Int.toNat (i : Int)) default) 3) == 2 with
   | true => rw [cS]; exact go _
   | false => rw [dL]; exact go _
def uT (x : Int) : aF := aF.mk 1 0 false (aA.mk ([] : Str) ([] : Str) 0 false 0 0 ([] : Str) 0 ([] : List aD)) ([99] : Str) ([] : Str) false 0 100 x (aV.mk false 0 (aA.mk ([] : Str) ([] : Str) 0 false 0 0 ([] : Str) 0 ([] : List aD))) false 0 ([] : List aG) ([] : List Str) ([] : List Int)
theorem acI {x : Int} (h0 : 1 ≤ x) (h1 : x ≤ 32) : oJ (uT x) = 0 := by
 unfold oJ afm
 rw [show fE (uT x).Client = true from aoD, cS, show ((uT x).User == []) = true from rfl, cS, show eL 0 1099511627776 (uT x).Keep = true from rfl, cS, show eL 0 1099511627776 (uT x).Expiry = true from rfl, cS, show eL 1 32 (uT x).Window = true from tJ.2 ⟨h0, h1⟩, cS]
 exact ahw
theorem ahF {x : Int} (h0 : 1 ≤ x) (h1 : x ≤ 32) : (uT x).good := by
 have z : okI .i64 0 := kD (by decide) (by decide)
 have nl : ∀ {α : Type} (P : α → Prop), okL P [] := fun P => ⟨by simp, by simp⟩
 have ns : okS [] := by show (0 : Nat) ≤ _; omega
 have m : (aA.mk ([] : Str) ([] : Str) 0 false 0 0 ([] : Str) 0 ([] : List aD)).good := ⟨ns, ns, z, z, z, ns, z, nl _⟩
 exact ⟨kD (x := 1) (by decide) (by decide), z, m, by show (1 : Nat) ≤ _; omega, ns, z, kD (x := 100) (by decide) (by decide), kD (x := x) (by omega) (by omega), ⟨z, m⟩, z, nl _, nl _, nl _⟩
def zF (p : Str) (l : Int) : aA := aA.mk ([116] : Str) p l false 0 0 ([] : Str) 0 ([] : List aD)
theorem arC : sR ([116] : Str) = true := by kernel_rfl
theorem aq2 {p : Str} {l : Int} (hp : p.length ≤ 256) (h0 : 0 ≤ l) (h1 : l ≤ 2) : okT (zF p l) := by
 have z : okI .i64 0 := kD (by decide) (by decide)
 refine ⟨?_, by show (1 : Nat) ≤ _; omega, by unfold okS; show p.length ≤ _; omega, kD (x := l) (by omega) (by omega), z, z, by show (0 : Nat) ≤ _; omega, z, ⟨by show (0 : Nat) ≤ _; omega, fun x hx => by cases hx⟩⟩
 unfold checkM
 rw [show sR (zF p l).Topic = true from arC, cS, aN (by show decide (256 < (p.length : Int)) = false; exact decide_eq_false (by omega)), show eL 0 2 (zF p l).Level = true from tJ.2 ⟨h0, h1⟩, cS]
 rfl
structure QOK (s : aC) (n : Nat) : Prop where
 t : TOK s
 on : s.Online = true
 q : s.Queue.length ≤ n
 d : s.Dropped = 0
theorem amg {s : aC} {n : Nat} (h : QOK s n) (hn : n ≤ 90) {p : Str} {l : Int} (hp : p.length ≤ 256) (h0 : 0 ≤ l) (h1 : l ≤ 2) : ∃ r, nK s (zF p l) 100 2 = some r ∧ QOK r.1 (n + 1) := by
 have hm := aq2 hp h0 h1
 refine ⟨_, ao6 s (zF p l) h.t.ok.abk (by show (0 : Nat) ≤ _; omega) 100 2, ?_⟩
 have hq := h.q
 have e : (nM s.Queue (zF p l) (aeS 100) 2) = (s.Queue ++ [zF p l], [], false) := by
  unfold nM
  rw [if_pos (by show (s.Queue.length : Int) < 100; omega)]
 have hs : SOK (rG s (s.Queue ++ [zF p l])) := h.t.ok.queue (by simp; omega) (fun m hx => by
  rcases List.mem_append.1 hx with hx | hx
  ·exact h.t.ok.q m hx
  ·rcases List.mem_singleton.1 hx with rfl; exact hm)
 have h2 := hs.drop (n := 0) (by omega) (by omega)
 unfold aeq aeH
 rw [h.on, Bool.not_true, dL, e]
 have hd0 : (if 1099511627776 < IntKind.wrap .i64 (s.Dropped + ((0 : Nat) : Int)) then 1099511627776 else IntKind.wrap .i64 (s.Dropped + ((0 : Nat) : Int))) = 0 := by rw [h.d]; rfl
 refine ⟨⟨?_, h.t.c, ?_⟩, rfl, by show (s.Queue ++ [zF p l]).length ≤ _; simp; omega, hd0⟩
 ·have : (pY (rG s (s.Queue ++ [zF p l])) 0) = pY (aC.mk s.Client s.User true s.Conn s.Expiry s.Until s.Dropped s.Subs (s.Queue ++ [zF p l]) s.Out s.In s.Will) (([] : List aA).length : Int) := by
   unfold rG; rw [h.on]; rfl
  rw [this] at h2
  exact h2
 ·show (if 1099511627776 < IntKind.wrap .i64 (s.Dropped + ((0 : Nat) : Int)) then 1099511627776 else IntKind.wrap .i64 (s.Dropped + ((0 : Nat) : Int))) + ((s.Queue ++ [zF p l]).length : Int) ≤ 1000
  rw [hd0]; simp; omega
theorem arz {x : Int} (h0 : 1 ≤ x) (h1 : x ≤ 32) (x3 : List Int) (hl : x3.length ≤ 20) {s : aC} {n : Nat} (h : QOK s n) (hn : n ≤ 12) {K : Int} (hK : (n : Int) ≤ K) :
  (Option.bind (mP s 0) fun r1 =>
  Option.bind (m7 r1.1 1) fun r2 =>
  Option.bind (nX r2) fun r3 =>
  cond (r3.2 != 0) (
   some false) (
  cond (decide ((List.length r1.2 : Int) > K)) (
   some false) (
  jW x3 (uT x) r2 r1.2 r3.1))) = some true := by
 have hq := h.q
 obtain ⟨r, L, e, a1, a2, _⟩ := auj h.t.ok 0 (by rw [h.d]; omega)
 have ec := alT h.t.ok e
 have s1 := are a1 (now := 1) ⟨by decide, by decide⟩
 have sm := (am8 a1 (now := 1) ⟨by decide, by decide⟩ (by have := a2.num; have := h.d; omega)).num
 have ck := s1.check
 have d := ape s1.g ck rfl rfl
 have hd : 0 ≤ r.Dropped := (oM.1 a1.head).2.2.2.2.2.1
 have hnum := a2.num
 have hL : (wD L).length = L.length := by unfold wD; simp
 have ex : afa (fV r 1) = (qX (fV r 1), 0) := by
  unfold afa
  rw [aN (by simpa using ck)]; rfl
 rw [e, aU, am9 _ a1.abk, aU, aow _ s1.g, aU, ex]
 dsimp only
 rw [aN (by simp), aN (decide_eq_false (by rw [hL]; have := h.d; omega))]
 unfold jW
 rw [aob (aqa d), aU, alS d ck]
 dsimp only
 have hc : (fV r 1).Client = [99] := by show r.Client = _; rw [ec]; exact h.t.c
 rw [aN (by simp), hc, aN (by rfl), show (fV r 1).Online = false from rfl, dL]
 unfold mF
 have sn : (fV r 1).Dropped + (fV r 1).Queue.length ≤ 100 := by have := h.d; simp only [List.length_nil] at sm; omega
 obtain ⟨q, e1, q1, q3, q4⟩ := arj s1 (ahF h0 h1) (acI h0 h1) (conn := 2) (kD (by decide) (by decide)) 2 (by omega)
 obtain ⟨qc, qo⟩ := ajs s1 e1
 have e2 : jE (aC.mk [99] (fV r 1).User false (fV r 1).Conn (fV r 1).Expiry (fV r 1).Until (fV r 1).Dropped (fV r 1).Subs (fV r 1).Queue (aH.mk (fV r 1).Out.Limit (fV r 1).Out.Items (aQ.mk (fV r 1).Out.Pool.Used (fV r 1).Out.Pool.Last)) (bG.mk (fV r 1).In.IDs) (aV.mk (fV r 1).Will.Set (fV r 1).Will.Delay (aA.mk (fV r 1).Will.Message.Topic (fV r 1).Will.Message.Payload (fV r 1).Will.Message.Level (fV r 1).Will.Message.Retain (fV r 1).Will.Message.Priority (fV r 1).Will.Message.Expires (fV r 1).Will.Message.From (fV r 1).Will.Message.Seq (fV r 1).Will.Message.Props))) (uT x) 2 2 = some q := by
  rw [← hc]; exact e1
 rw [e1, aU, e2, aU, aeB _ (by omega), aU, aN (by rfl), qo, aN (by rfl)]
 have fin : jS x3 q.1 q.1 = some true := aoc x3 hl x3.length 0 fuel q.1 (by omega) (by rw [fU]; omega) ⟨q1, by rw [qc]; exact hc, by omega⟩
 rw [q1.apb, fin]
 simp only [aU, bne_self_eq_false, dL]
 cases decide ((List.length (wD L) : Int) > 0) <;> rfl
theorem als {x : Int} (h0 : 1 ≤ x) (h1 : x ≤ 32) (x1 : List Str) (x2 x3 : List Int) (hl1 : x1.length ≤ 12) (hl : x3.length ≤ 20) (hb : ∀ y ∈ x2, 0 ≤ y) : ∀ (k i fu : Nat) (s : aC), i + k = x1.length → k < fu → QOK s i → eO fu x1 x2 x3 (i : Int) (uT x) s = some true := by
 intro k
 induction k with
 | zero =>
  intro i fu s hi hf h
  obtain ⟨fu, rfl⟩ : ∃ n, fu = n + 1 := ⟨fu - 1, by omega⟩
  rw [eO, aN (by simp; omega)]
  exact arz h0 h1 x3 hl h (by omega) (by omega)
 | succ k ih =>
  intro i fu s hi hf h
  obtain ⟨fu, rfl⟩ : ∃ n, fu = n + 1 := ⟨fu - 1, by omega⟩
  have hlt : i < x1.length := by omega
  have go : ∀ l : Int, 0 ≤ l → l ≤ 2 → ¬ ((List.getD x1 (Int.toNat (i : Int)) default).length > 256) → iD (eO fu) x1 x2 x3 (i : Int) l (uT x) s = some true := fun l l0 l1 hp => by
   obtain ⟨r, e, hr⟩ := amg h (by omega) (p := List.getD x1 (Int.toNat (i : Int)) default) (l := l) (by omega) l0 l1
   unfold iD
   rw [aM (inr hlt)]
   have e' : nK s (aA.mk ([116] : Str) (List.getD x1 (Int.toNat (i : Int)) default) l false 0 0 ([] : Str) 0 ([] : List aD)) 100 2 = some r := e
   rw [e', aU, cG (by omega)]
   exact ih (i + 1) fu r.1 (by omega) (by omega) hr
  rw [eO, aM (lL hlt), aM (inr hlt)]
  by_cases c : (List.getD x1 (Int.toNat (i : Int)) default).length > 256
  ·rw [aM (decide_eq_true (by omega))]
  ·rw [aN (decide_eq_false (by omega))]
   by_cases c2 : i < x2.length
   ·rw [aM (lL c2), aM (inr c2), dV c2]
    have hy := hb _ (List.getElem_mem c2)
    have e : IntKind.wrap .i64 (Int.tmod x2[i] 3) = x2[i] % 3 := by rw [Int.tmod_eq_emod_of_nonneg hy, IntKind.wrap_i64]; omega
    rw [e]
    exact go _ (by omega) (by omega) c
   ·rw [aN (by simp; omega)]
    exact go 1 (by omega) (by omega) c
theorem abL (p0 : Int) (p1 : (List Str)) (p2 : (List Int)) (p3 : (List Int)) (g0 : D.okL [.int .i64] ([D.int .i64 p0])) (g1 : D.okL [.sl [.str]] ([D.sl [.str] (List.map bU p1)])) (g2 : D.okL [.sl [.int .u8]] ([D.sl [.int .u8] (List.map (encI .u8) p2)])) (g3 : D.okL [.sl [.int .u8]] ([D.sl [.int .u8] (List.map (encI .u8) p3)])) : pA p0 p1 p2 p3 = some true := by
 have hb := asU g2
 unfold pA
 by_cases c0 : p0 < 1
 ·rw [aM (by simpa using c0)]
 ·rw [aN (by simpa using c0)]
  by_cases c1 : p0 > 32
  ·rw [aM (by simpa using c1)]
  ·rw [aN (by simpa using c1)]
   by_cases c2 : (p1.length : Int) > 12
   ·rw [aM (by simpa using c2)]
   ·rw [aN (by simpa using c2)]
    by_cases c3 : (p3.length : Int) > 20
    ·rw [aM (by simpa using c3)]
    ·rw [aN (by simpa using c3)]
     unfold mT
     have e := axK (acI (x := p0) (by omega) (by omega)) 1
     have e' : rY (aF.mk 1 0 false (aA.mk ([] : Str) ([] : Str) 0 false 0 0 ([] : Str) 0 ([] : List aD)) ([99] : Str) ([] : Str) false 0 100 p0 (aV.mk false 0 (aA.mk ([] : Str) ([] : Str) 0 false 0 0 ([] : Str) 0 ([] : List aD))) false 0 ([] : List aG) ([] : List Str) ([] : List Int)) 1 = some (apy (uT p0) 1) := e
     rw [e', aU]
     have ok := ar5 (ahF (x := p0) (by omega) (by omega)) (acI (x := p0) (by omega) (by omega)) (conn := 1) (kD (by decide) (by decide))
     exact als (x := p0) (by omega) (by omega) p1 p2 p3 (by omega) (by omega) (fun y hy => (hb y hy).1) p1.length 0 fuel _ (by omega) (by rw [fU]; omega) ⟨⟨ok, rfl, by show (0 : Int) + ((0 : Nat) : Int) ≤ 1000; decide⟩, rfl, by show (0 : Nat) ≤ _; omega, rfl⟩
end Md
end PX
