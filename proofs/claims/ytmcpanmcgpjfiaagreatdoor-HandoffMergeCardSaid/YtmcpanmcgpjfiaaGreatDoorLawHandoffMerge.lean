import Derived.Test.YtmcpanmcgpjfiaaGreatDoorSeatD
set_option linter.unusedVariables false
set_option linter.unusedSimpArgs false
namespace PX
open Go
namespace Md
theorem aEu (K : List aA → List aA → Int → Int → List aA → Option Bool) (a b : List aA) (n : Int) (j : Nat) (hj : j ≤ 1000) (m : aA) (w : List aA) (ha : a.length ≤ 1000) (hn : ∀ y ∈ a, y.Client = m.Client → aDl y m = false) :
  eR fuel K a b n (j : Int) a (a.length : Int) 0 m w = K a b n ((j + 1 : Nat) : Int) w := by
 exact iP (n := a.length) (F := fun fu i (_ : Unit) => eR fu K a b n (j : Int) a (a.length : Int) i m w) (G := fun _ _ => K a b n ((j + 1 : Nat) : Int) w) (fun _ _ => True)
  (fun fu s _ => by rw [eR, bE (by simp), cI (by omega)])
  (fun fu i s hi _ ih => by
   have ih := ih () trivial
   rw [eR, aT (iI hi), aT (inr hi), cW hi, cI (by omega), ih]
   by_cases e : a[i].Client = m.Client
   ·have h := hn _ (List.getElem_mem hi) e
    rw [aDE] at h
    have h1 : decide (a[i].Epoch > m.Epoch) = false := by simp; omega
    rw [aT (by simpa using e), h1, iH]
    by_cases h2 : a[i].Epoch = m.Epoch
    ·have h3 : decide (a[i].Node < m.Node) = false := by simp; omega
     rw [aT (by simpa using h2), h3, iH]
    ·rw [bE (by simpa using h2)]
   ·rw [bE (by simpa using e)]) (by omega) () trivial
theorem aEv (a b w : List aA) (ha : a.length ≤ 100) (hb : b.length ≤ 100) (hw : w.length ≤ 1000) (hm : ∀ x ∈ w, x ∈ a ∨ x ∈ b) (hn : ∀ x ∈ w, ∀ y ∈ a, y.Client = x.Client → aDl y x = false) (l1 : a.length ≤ w.length) (l2 : b.length ≤ w.length) (l3 : w.length ≤ a.length + b.length) :
  gS fuel a b (w.length : Int) 0 w = some true := by
 exact iP (n := w.length) (F := fun fu i (_ : Unit) => gS fu a b (w.length : Int) i w) (G := fun _ _ => some true) (fun _ _ => True)
  (fun fu s _ => by
   have e : IntKind.wrap .i64 ((a.length : Int) + (b.length : Int)) = (a.length : Int) + b.length := by rw [IntKind.wrap_i64]; omega
   rw [gS, bE (by simp), e, aT (by simp; omega), aT (by simp; omega), aT (by simp; omega), asZ]; rfl)
  (fun fu i s hi _ ih => by
   have ih := ih () trivial
   have hx := List.getElem_mem hi
   rw [gS, aT (iI hi), aT (inr hi), cW hi, contains_eq a _ (by omega), contains_eq b _ (by omega), c9, c9]
   have h12 : jD (gS fu) a b (w.length : Int) (i : Int) w[i] w = some true := by
    unfold jD
    rw [aEu _ a b _ i (by omega) _ w (by omega) (hn _ hx)]
    exact ih
   rw [h12]
   rcases hm _ hx with h | h
   ·rw [decide_eq_true h]; rfl
   ·rw [decide_eq_true h]
    cases decide (w[i] ∈ a) <;> rfl) (by omega) () trivial
theorem aDF (p0 : (List aA)) (p1 : (List aA)) (p2 : (List aA)) (g0 : D.okL [.sl aA.ks] ([D.sl aA.ks (List.map aA.enc p0)])) (g1 : D.okL [.sl aA.ks] ([D.sl aA.ks (List.map aA.enc p1)])) (g2 : D.okL [.sl aA.ks] ([D.sl aA.ks (List.map aA.enc p2)])) : uW p0 p1 p2 = some true := by
 have h0 : okL aA.good p0 := m0 (fun _ => aA.g8) g0.1
 have h1 : okL aA.good p1 := m0 (fun _ => aA.g8) g1.1
 have h2 : okL aA.good p2 := m0 (fun _ => aA.g8) g2.1
 unfold uW mM mK
 rw [asZ, akR p0 h0, akR p1 h1, akR p2 h2]
 simp only [c9]
 by_cases a0 : (p0.length : Int) > 10
 ·rw [aT (by simpa using a0)]
 by_cases a1 : (p1.length : Int) > 10
 ·rw [bE (by simpa using a0), aT (by simpa using a1)]
 by_cases a2 : (p2.length : Int) > 10
 ·rw [bE (by simpa using a0), bE (by simpa using a1), aT (by simpa using a2)]
 rw [bE (by simpa using a0), bE (by simpa using a1), bE (by simpa using a2)]
 by_cases c0 : aiE p0 = 0
 ·rw [bE (by simpa using c0)]
  by_cases c1 : aiE p1 = 0
  ·rw [bE (by simpa using c1)]
   by_cases c2 : aiE p2 = 0
   ·rw [bE (by simpa using c2)]
    have s0 := aDu.1 c0
    have s1 := aDu.1 c1
    have s2 := aDu.1 c2
    obtain ⟨m1, n1⟩ := aDn (b := p1) s0.asc
    obtain ⟨m2, n2⟩ := aDn (b := p2) s1.asc
    obtain ⟨m3, n3⟩ := aDn (b := p2) m1
    have hmem : ∀ x ∈ aDm p0 p1, x ∈ p0 ∨ x ∈ p1 := fun x hx => aEn s0.asc s1.asc hx
    have sm : aDO (aDm p0 p1) := ⟨m1, fun x hx => by
     rcases hmem x hx with h | h
     ·exact s0.ok x h
     ·exact s1.ok x h, by omega⟩
    have gm : okL aA.good (aDm p0 p1) := ⟨by omega, fun x hx => by
     rcases hmem x hx with h | h
     ·exact h0.2 x h
     ·exact h1.2 x h⟩
    rw [aDt p0 p1 s0.asc (by omega) (by omega), aDt p1 p0 s1.asc (by omega) (by omega), aDt p0 p0 s0.asc (by omega) (by omega), aDS s1.asc s0.asc, aEi s0.asc]
    simp only [c9]
    rw [aDt _ p2 m1 (by omega) (by omega), aDt p1 p2 s1.asc (by omega) (by omega)]
    simp only [c9]
    rw [aDt p0 _ s0.asc (by omega) (by omega)]
    simp only [c9]
    rw [← aEg s0.asc s1.asc s2.asc, aDM _ (by omega), aDM p0 (by omega), aDM _ (by omega), akR _ gm, aDu.2 sm]
    simp only [c9, Bool.not_true, iH, bne_self_eq_false]
    exact aEv p0 p1 _ (by omega) (by omega) (by omega) hmem (fun x hx y hy hc => aEm s0.asc s1.asc hx hy hc) (aDU s0.asc) (by rw [aDS s0.asc s1.asc]; exact aDU s1.asc) n1
   ·rw [aT (by simpa using c2)]
  ·rw [aT (by simpa using c1)]
 ·rw [aT (by simpa using c0)]
end Md
end PX
