import Derived.Test.YthgmhhgmnegocaaGreatDoorWdD
set_option linter.unusedVariables false
set_option linter.unusedSimpArgs false
namespace PX
open Go
namespace Md
theorem agM {l q : List Int} {lim : Int} (hb : byt l) {s : List UInt8} (h : gK lim l = .ok s q) : q.length + 1 ≤ l.length := by
 obtain ⟨_, e⟩ := mB lim l s q hb h
 rw [e]
 unfold fL
 have : 0 < (cV (s.length : Int)).length := by
  unfold cV
  rw [kN]
  split <;> simp
 simp only [List.length_append]
 omega
def wL : Nat → List Int → List aA → List aA × Int
 | 0, _, w => (w, 0)
 | n + 1, [], w => (w, 0)
 | n + 1, l, w => match gK 4096 l with
  | .er e _ => ([], e)
  | .ok s q => if (w3 (ofStr s)).2 = 0 then wL n q (w ++ [(w3 (ofStr s)).1]) else ([], (w3 (ofStr s)).2)
theorem aaC {n : Nat} {l : List Int} {w : List aA} (h : l ≠ []) : wL (n + 1) l w = match gK 4096 l with
  | .er e _ => ([], e)
  | .ok s q => if (w3 (ofStr s)).2 = 0 then wL n q (w ++ [(w3 (ofStr s)).1]) else ([], (w3 (ofStr s)).2) := by
 cases l with
 | nil => exact absurd rfl h
 | cons a r => rfl
theorem amx {s : List UInt8} (h : (s.length : Int) ≤ 4096) : Buf (ofStr s) := ⟨am5 s, by rw [agJ]; omega⟩
theorem av4 {x0 : List Int} (hb : Buf x0) (hl : x0.length ≤ 50000) : ∀ (k : Nat) (fu p : Nat) (w : List aA), p ≤ x0.length → x0.length - p ≤ k → k < fu → w.length ≤ p → jQ fu x0 (p : Int) w = some (wL k (x0.drop p) w) := by
 intro k
 induction k with
 | zero =>
  intro fu p w hp hk hf hw
  obtain ⟨fu, rfl⟩ : ∃ n, fu = n + 1 := ⟨fu - 1, by omega⟩
  rw [jQ, aQ (by simp; omega)]
  rfl
 | succ k ih =>
  intro fu p w hp hk hf hw
  obtain ⟨fu, rfl⟩ : ∃ n, fu = n + 1 := ⟨fu - 1, by omega⟩
  by_cases c : p = x0.length
  ·rw [jQ, aQ (by simp; omega), (aeY hp).2 c]
   rfl
  ·rw [jQ, aL (by simp; omega), aaC (fun e => c ((aeY hp).1 e))]
   have hbd : byt (x0.drop p) := fun x hx => hb.1 x (List.mem_of_mem_drop hx)
   have hm := agW hb p hp
   unfold qK at hm
   have ht := ajN hb 4096 (by decide) p hp
   unfold xL at ht
   cases e : iL (x0.drop p) with
   | er e' he =>
    rw [e] at hm
    have et : gK 4096 (x0.drop p) = .er e' he := by
     unfold gK kS
     rw [aaa (aaa e)]
    rw [hm, aU, aL (aaY he), et]
   | ok n q =>
    rw [e] at hm
    obtain ⟨a, ha, hq, ho⟩ := hm
    rw [ho, aU, aQ (by simp)] at ht ⊢
    dsimp only at ht ⊢
    by_cases c1 : n < 0
    ·have et : gK 4096 (x0.drop p) = .er 2 (by decide) := by
      unfold gK kS
      refine aaa ?_
      rw [tG e, if_pos c1]; rfl
     rw [aL (by simpa using c1), et]
    ·by_cases c2 : n > 4096
     ·have et : gK 4096 (x0.drop p) = .er 5 (by decide) := by
       unfold gK kS
       refine aaa ?_
       rw [tG e, if_neg c1, if_pos c2]; rfl
      rw [aQ (by simpa using c1), aL (by simpa using c2), et]
     ·rw [aQ (by simpa using c1), aQ (by simpa using c2)] at ht ⊢
      have w1 : IntKind.wrap .i64 ((x0.length : Int) - (a : Int)) = (x0.length : Int) - a := by rw [IntKind.wrap_i64]; omega
      rw [w1] at ht ⊢
      by_cases c3 : n > (x0.length : Int) - a
      ·rw [aL (by simpa using c3)] at ht ⊢
       unfold qK at ht
       cases et : gK 4096 (x0.drop p) with
       | er e2 h2 =>
        rw [et] at ht
        have ht : some (([] : Str), (0 : Int), (3 : Int)) = some ([], 0, e2) := ht
        injection ht with ht
        injection ht with _ ht
        injection ht with _ ht
        rw [ht]
       | ok s q =>
        rw [et] at ht
        obtain ⟨b, _, _, hh⟩ := ht
        injection hh with hh
        injection hh with _ hh
        injection hh with _ hh
        cases hh
      ·have w2 : IntKind.wrap .i64 ((a : Int) + n) = ((a + n.toNat : Nat) : Int) := by rw [IntKind.wrap_i64]; omega
       rw [aQ (by simpa using c3), w2, aL (by simp; omega), aL (by simp; omega), aL (by simp; omega)] at ht ⊢
       unfold qK at ht
       cases et : gK 4096 (x0.drop p) with
       | er e2 h2 =>
        rw [et] at ht
        have ht : some (_, _, (0 : Int)) = some (([] : Str), (0 : Int), e2) := ht
        injection ht with ht
        injection ht with _ ht
        injection ht with _ ht
        exact absurd ht.symm h2
       | ok s q =>
        rw [et] at ht
        obtain ⟨b, hb1, hb2, hh⟩ := ht
        injection hh with hh
        injection hh with hs hh
        injection hh with hh _
        have ebn : a + n.toNat = b := by omega
        have hcut : byt (dI x0 (some (a : Int)) (some ((a + n.toNat : Nat) : Int))) := fun x hx => by
         unfold dI at hx
         exact hb.1 x (List.mem_of_mem_take (List.mem_of_mem_drop hx))
        have ecut : dI x0 (some (a : Int)) (some ((a + n.toNat : Nat) : Int)) = ofStr s := by rw [← hs, vK hcut]
        have hprog := agM hbd et
        have hlen : q.length = x0.length - b := by rw [← hb2, List.length_drop]
        rw [List.length_drop] at hprog
        have hs4 : (s.length : Int) ≤ 4096 := (mB 4096 _ _ _ hbd et).1
        rw [ecut, (aai (amx hs4)).1, aU]
        dsimp only
        by_cases c4 : (w3 (ofStr s)).2 = 0
        ·rw [if_pos c4, aQ (by simpa using c4), aL (by simp; omega), ebn, ih fu b _ (by omega) (by omega) (by omega) (by simp; omega), hb2]
        ·rw [if_neg c4, aL (by simpa using c4)]
theorem awL {x0 : List Int} (hb : Buf x0) (hl : x0.length ≤ 50000) : ∀ (k : Nat) (fu p : Nat) (w : List aA), p ≤ x0.length → x0.length - p ≤ k → k < fu → w.length ≤ p → fG fu x0 (p : Int) w = some (wL k (x0.drop p) w) := by
 intro k
 induction k with
 | zero =>
  intro fu p w hp hk hf hw
  obtain ⟨fu, rfl⟩ : ∃ n, fu = n + 1 := ⟨fu - 1, by omega⟩
  rw [fG, aQ (by simp; omega)]
  rfl
 | succ k ih =>
  intro fu p w hp hk hf hw
  obtain ⟨fu, rfl⟩ : ∃ n, fu = n + 1 := ⟨fu - 1, by omega⟩
  by_cases c : p = x0.length
  ·rw [fG, aQ (by simp; omega), (aeY hp).2 c]
   rfl
  ·rw [fG, aL (by simp; omega), aaC (fun e => c ((aeY hp).1 e))]
   have hbd : byt (x0.drop p) := fun x hx => hb.1 x (List.mem_of_mem_drop hx)
   have ht := ajE hb 4096 (by decide) p hp
   unfold qK at ht
   cases et : gK 4096 (x0.drop p) with
   | er e2 h2 =>
    rw [et] at ht
    rw [ht, aU, aL (aaY h2)]
   | ok s q =>
    rw [et] at ht
    obtain ⟨b, hb1, hb2, hh⟩ := ht
    have hprog := agM hbd et
    have hlen : q.length = x0.length - b := by rw [← hb2, List.length_drop]
    rw [List.length_drop] at hprog
    have hs4 : (s.length : Int) ≤ 4096 := (mB 4096 _ _ _ hbd et).1
    rw [hh, aU, aQ (by simp)]
    dsimp only
    rw [(aai (amx hs4)).2.1, aU]
    by_cases c4 : (w3 (ofStr s)).2 = 0
    ·rw [if_pos c4, aQ (by simpa using c4), aL (by simp; omega), ih fu b _ (by omega) (by omega) (by omega) (by simp; omega), hb2]
    ·rw [if_neg c4, aL (by simpa using c4)]
theorem amT : ∀ (n : Nat) (l : List Int) (w : List aA), byt l → (∀ x ∈ w, x.good) → ∀ x ∈ (wL n l w).1, x.good
 | 0, l, w, hb, hw => hw
 | n + 1, [], w, hb, hw => hw
 | n + 1, a :: r, w, hb, hw => by
  rw [aaC (by simp)]
  cases et : gK 4096 (a :: r) with
  | er e2 h2 => intro x hx; cases hx
  | ok s q =>
   obtain ⟨d, e⟩ := mB 4096 _ s q hb et
   dsimp only
   split
   ·refine amT n q _ (by rw [e] at hb; exact fW hb) fun x hx => ?_
    rcases List.mem_append.1 hx with hx | hx
    ·exact hw x hx
    ·rw [List.mem_singleton.1 hx]
     exact (aai (amx d)).2.2
   ·intro x hx; cases hx
theorem aoz : ∀ (n : Nat) (l : List Int) (w : List aA), (wL n l w).1.length ≤ w.length + n
 | 0, l, w => by simp [wL]
 | n + 1, [], w => by simp [wL]
 | n + 1, a :: r, w => by
  rw [aaC (by simp)]
  cases et : gK 4096 (a :: r) with
  | er e2 h2 => simp
  | ok s q =>
   dsimp only
   split
   ·have := aoz n q (w ++ [(w3 (ofStr s)).1])
    simp at this
    omega
   ·simp
theorem ala {a : List aA} (h : ∀ x ∈ a, x.good) (hl : a.length ≤ 100000) : lA a a = some true := by
 unfold lA
 rw [aQ (by simp)]
 refine nR (l := a) (F := fun fu i => iJ fu a a i) (g := fun _ => some true) (fun fu => by rw [iJ, aQ (by simp)]) (fun fu i hi ih => ?_) (by omega)
 rw [iJ, aL (jC hi)]
 simp only [aL (inr hi), cN hi]
 rw [xK _ _ (h _ (List.getElem_mem hi)), aU, aQ (by simp), cD (by omega), ih]
theorem aiS {x0 : List Int} (hb : Buf x0) (hl : x0.length ≤ 50000) : rA x0 = some (wL 50000 x0 []) ∧ pK x0 = some (wL 50000 x0 []) := by
 have h1 := av4 hb hl 50000 fuel 0 [] (by omega) (by omega) (by rw [iX]; omega) (by simp)
 have h2 := awL hb hl 50000 fuel 0 [] (by omega) (by omega) (by rw [iX]; omega) (by simp)
 rw [List.drop_zero] at h1 h2
 exact ⟨h1, h2⟩
end Md
end PX
set_option linter.unusedVariables false
namespace PX
open Go
namespace Md
theorem acL (p0 : (List Int)) (g0 : D.okL [.sl [.int .u8]] ([D.sl [.int .u8] (List.map (aO .u8) p0)])) : o6 p0 = some true := by
 unfold o6
 by_cases c : (p0.length : Int) > 5000
 ·rw [aL (by simpa using c), nI]; rfl
 ·have hb := asR g0 (by omega)
  obtain ⟨h1, h2⟩ := aiS hb (by omega)
  have h3 := amT 50000 p0 [] hb.1 (fun x hx => by cases hx)
  have h4 := aoz 50000 p0 []
  rw [aQ (by simpa using c), h1, aU, h2, aU, ala h3 (by simp at h4; omega), aU, aL (by rfl), aL (by simp), nI]; rfl
end Md
end PX
